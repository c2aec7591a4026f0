/- Part 4 of the proof of LRunTable: what it needs of the library, the walks and the plain laws. Conditions: those named in each theorem. -/
import Derived.Test.YtgmdjhdgaddigaaLRunTableM3
set_option linter.unusedVariables false
set_option linter.unusedSimpArgs false
set_option maxRecDepth 4000
namespace Go.Proofs.Ytgmdjhdgaddigaa
theorem fnOk65 : fnOk Try.prog 65 = true := by kernel_rfl
theorem fnOk70 : fnOk Try.prog 70 = true := by kernel_rfl
theorem fnOk73 : fnOk Try.prog 73 = true := by kernel_rfl
theorem fnOk74 : fnOk Try.prog 74 = true := by kernel_rfl
theorem fnOk76 : fnOk Try.prog 76 = true := by kernel_rfl
theorem fin0_dWrite_ok {P : Prop} (h : P := by first | (rw [write_bad1 (by assumption)] <;> rfl) | (rw [write_bad2 (by assumption) (by assumption)] <;> rfl) | (rw [write_go (by assumption) (by assumption), write_off hp hn (by omega) (by assumption)] <;> rfl) | (rw [write_go (by assumption) (by assumption), write_end hp (by omega)] <;> rfl)) : P := h
theorem dWrite_ok (W : World) {m0 : Mem} (hm : mle (m0) (wm W)) {g0 : Nat} {d0 : DdiskDisk} (h0 : Ow (.ptr TdiskDisk) m0 [.pointer (some ⟨g0, 0, none⟩)] (g0, d0)) (d1 : Int) (h1 : inK .i64 d1) {v2 : Value} {d2 : List UInt8} (h2 : Rd (.sl .byte) (mout (wm W) (m0)) [v2] d2) (e0 : okD d0) (e1 : wD d0 + 3 * d2.length ≤ 1000000000000) : CallR Try.prog 44 [.pointer (some ⟨g0, 0, none⟩), .int .i64 d1, v2] W (m0) (fun v m' => v = .int .i64 ((dWrite d0 d1 d2).2) ∧ Ow (.ptr TdiskDisk) m' [.pointer (some ⟨g0, 0, none⟩)] (g0, (dWrite d0 d1 d2).1)) := by
  have hok0 := e0; obtain ⟨hg, hfu, hst⟩ := e0
  have h1' := h1; simp only [inK] at h1'
  obtain ⟨A2, c2, rfl, l2, k2⟩ := h2.slice
  simp only [maxLen] at k2
  refine CallR.ofB (n := 44) hm Try.func44 rfl rfl rfl ?_
  refine VC.rs ?_
  refine VO.as ?_
  refine VO.k4 0 1 2 6 ?_
  refine VC.seq ?_
  refine VC.rs ?_
  refine VO.mv ?_
  refine VO.call 1 rfl fnOk65 rfl rfl (fun W hW => dWrong_ok W (hW.at (i := 1) rfl) h0) (fun v1 m1 hv1 => ?_)
  obtain ⟨rfl, w1_0⟩ := hv1
  refine VO.as ?_
  refine VO.k5 0 1 2 6 7 ?_
  refine VC.rs ?_
  refine VO.mv ?_
  refine VO.y rfl (.neq rfl rfl) ?_
  refine VO.kp [1, 0] [(1, m1), (0, mout (wm W) (m0))] ?_
  refine VO.k6 0 1 2 6 7 12 ?_
  refine VC.cond rfl (fun hc2 => ?_) (fun hc2 => ?_)
  · -- T
    refine VC.rs ?_
    refine VO.mv ?_
    refine VO.as ?_
    refine VO.k6 0 1 2 6 7 12 ?_
    refine VC.ret ?_
    refine outR ?_
    refine ⟨_, _, res_run (rs := [.tmp 6]) rfl (.tmp rfl .nil), fun W_ hI => out_of (l := [m1]) hI [1] rfl rfl (mle_refl _) (fun hS_ => ?_)⟩
    dsimp only [packV]
    have hm0_ : ((dWrite d0 d1 d2).1 : DdiskDisk) = d0 := by first | rfl | (exact fin0_dWrite_ok)
    refine ⟨?_, ?_⟩
    rotate_left
    · rw [hm0_]; exact (Ow.up w1_0 (hS_.1 _ (.head _)))
    all_goals (first | rfl | (exact fin0_dWrite_ok))
  · -- F
    refine VC.skip ?_
    refine outN ?_
    refine VC.seq ?_
    refine VC.rs ?_
    refine VO.mv ?_
    refine VO.callN 103 rfl fnOk73 rfl (fun W hW => dIs_ok W d1 bdk) (fun v3 m3 hv3 => ?_)
    subst hv3
    refine VO.y rfl (.notD rfl) ?_
    refine VO.k7 0 1 2 6 7 12 16 ?_
    refine VC.cond rfl (fun hc4 => ?_) (fun hc4 => ?_)
    · -- FT
      refine VC.rs ?_
      refine VO.as ?_
      refine VO.k7 0 1 2 6 7 12 16 ?_
      refine VC.ret ?_
      refine outR ?_
      refine ⟨_, _, res_run (rs := [.tmp 6]) rfl (.tmp rfl .nil), fun W_ hI => out_of (l := [m1]) hI [1] rfl rfl (mle_refl _) (fun hS_ => ?_)⟩
      dsimp only [packV]
      have hm0_ : ((dWrite d0 d1 d2).1 : DdiskDisk) = d0 := by first | rfl | (exact fin0_dWrite_ok)
      refine ⟨?_, ?_⟩
      rotate_left
      · rw [hm0_]; exact (Ow.up w1_0 (hS_.1 _ (.head _)))
      all_goals (first | rfl | (exact fin0_dWrite_ok))
    · -- FF
      refine VC.skip ?_
      refine outN ?_
      refine VC.seq ?_
      refine VC.block ?_
      refine VC.loop (G := DdiskDisk × Mem × (List UInt8) × (Option Addr) × Nat × Nat) (fun g => [(2, Value.slice (g.2.2.2.1) ((g.2.2.1).length) ((g.2.2.2.2.1))), (0, Value.pointer (some ⟨g0, 0, none⟩)), (1, Value.int .i64 (d1)), (7, Value.int .i64 (wrongD d0)), (12, Value.bool (decide (¬ (wrongD d0) = 0))), (16, Value.bool (decide (¬ (inF d1))))]) (fun g => [(1, (g.2.1)), (0, mout (wm W) (m0))]) (fun g => (writeGo d2.length d0 d1 d2 = writeGo (g.2.2.2.2.2) (g.1) d1 (g.2.2.1)) ∧ ((g.2.2.1).length ≤ (g.2.2.2.2.2)) ∧ (okD (g.1)) ∧ (wD (g.1) + 3 * (g.2.2.1).length ≤ 1000000000000) ∧ (Rd (.sl .byte) (mout (wm W) (m0)) [.slice (g.2.2.2.1) (g.2.2.1).length (g.2.2.2.2.1)] (g.2.2.1)) ∧ (Ow (.ptr TdiskDisk) (g.2.1) [.pointer (some ⟨g0, 0, none⟩)] (g0, (g.1)))) (fun g => (g.2.2.1).length) (d0, m1, d2, A2, c2, d2.length) (⟨by rfl, by (dsimp only; omega), by exact hok0, by (dsimp only; omega), h2, w1_0⟩) ⟨⟨rfl, rfl, rfl, rfl, rfl, rfl, trivial⟩, fun _ h => h.sub [1, 0]⟩ ?_
      rintro ⟨d, d_m, b, b_A, b_c, n⟩ ⟨hp, hn, hok, hw, h_b, h_d⟩
      replace hp : writeGo d2.length d0 d1 d2 = writeGo n d d1 b := hp
      replace hn : b.length ≤ n := hn
      replace hok : okD d := hok
      replace hw : wD d + 3 * b.length ≤ 1000000000000 := hw
      replace h_b : Rd (.sl .byte) (mout (wm W) (m0)) [.slice b_A b.length b_c] b := h_b
      replace h_d : Ow (.ptr TdiskDisk) d_m [.pointer (some ⟨g0, 0, none⟩)] (g0, d) := h_d
      show VC _ _ _ _ _ [(2, Value.slice b_A (b.length) (b_c)), (0, Value.pointer (some ⟨g0, 0, none⟩)), (1, Value.int .i64 (d1)), (7, Value.int .i64 (wrongD d0)), (12, Value.bool (decide (¬ (wrongD d0) = 0))), (16, Value.bool (decide (¬ (inF d1))))] [(1, d_m), (0, mout (wm W) (m0))]
      have l_b : b.length ≤ b_c := by obtain ⟨_, _, he, hl, _⟩ := h_b.slice; simp only [Value.slice.injEq] at he; omega
      have k_b : b_c ≤ 9223372036854775807 := by obtain ⟨_, _, he, _, hl⟩ := h_b.slice; simp only [Value.slice.injEq, maxLen] at he hl; omega
      refine VC.seq ?_
      refine VC.rs ?_
      refine VO.mv ?_
      refine VO.y rfl (.lenS rfl tsl38) ?_
      refine VO.y rfl (.gtr rfl rfl) ?_
      refine VO.k7 0 1 2 7 12 16 19 ?_
      refine VC.cond rfl (fun hc5 => ?_) (fun hc5 => ?_)
      · -- FFT
        refine VC.skip ?_
        refine outN ?_
        refine VC.block ?_
        refine VC.seq ?_
        refine VC.rs ?_
        refine VO.mv ?_
        refine VO.call 1 rfl fnOk76 rfl rfl (fun W hW => dBurn_ok W (hW.at (i := 1) rfl) h_d (by assumption) bd) (fun v6 m6 hv6 => ?_)
        obtain ⟨rfl, w6_0⟩ := hv6
        have hfa7 := (burn_ok (show okD d by assumption))
        have hfa8 := (burn_w (show okD d by assumption))
        have hfa9 := (len_w (burnD d).1)
        refine VO.y rfl (.notD rfl) ?_
        refine VO.kp [1, 0] [(1, m6), (0, mout (wm W) (m0))] ?_
        refine VO.k8 0 1 2 7 12 16 19 22 ?_
        refine VC.cond rfl (fun hc10 => ?_) (fun hc10 => ?_)
        · -- FFTT
          refine VC.rs ?_
          refine VO.as ?_
          refine VO.k9 0 1 2 6 7 12 16 19 22 ?_
          refine VC.ret ?_
          refine outR ?_
          refine outBR ?_
          refine outR ?_
          refine outBR ?_
          refine outR ?_
          refine ⟨_, _, res_run (rs := [.tmp 6]) rfl (.tmp rfl .nil), fun W_ hI => out_of (l := [m6]) hI [1] rfl rfl (mle_refl _) (fun hS_ => ?_)⟩
          dsimp only [packV]
          have hm0_ : ((dWrite d0 d1 d2).1 : DdiskDisk) = (burnD d).1 := by first | rfl | (exact fin0_dWrite_ok)
          refine ⟨?_, ?_⟩
          rotate_left
          · rw [hm0_]; exact (Ow.up w6_0 (hS_.1 _ (.head _)))
          all_goals (first | rfl | (exact fin0_dWrite_ok))
        · -- FFTF
          refine VC.skip ?_
          refine outN ?_
          refine VC.rs ?_
          refine VO.mv ?_
          refine VO.y rfl (.lenS rfl tsl38) ?_
          refine VO.y rfl (.minM rfl rfl) ?_
          refine VO.as ?_
          refine VO.k9 0 1 2 7 8 12 16 19 22 ?_
          refine VC.seq ?_
          obtain ⟨q11_E, q11_A5, q11_c5, q11_A6, q11_c6, q11_A7, q11_c7, q11_A8, q11_c8, q11_A9, q11_c9, q11_n5, q11_n6, q11_n7, q11_n8, q11_n9, _, q11_S, q11_3, q11_4, q11_5, q11_6, q11_7, q11_8, q11_9⟩ := openP_diskDisk (x0 := ((burnD d).1).1) (x1 := ((burnD d).1).2.1) (x2 := ((burnD d).1).2.2.1) (x3 := ((burnD d).1).2.2.2.1) (x4 := ((burnD d).1).2.2.2.2.1) (x5 := (((burnD d).1).2.2.2.2.2.1).1) (x6 := (((burnD d).1).2.2.2.2.2.1).2.1) (x7 := (((burnD d).1).2.2.2.2.2.1).2.2.1) (x8 := (((burnD d).1).2.2.2.2.2.1).2.2.2) (x9 := ((burnD d).1).2.2.2.2.2.2) w6_0
          simp only [inK] at q11_3
          simp only [inK] at q11_4
          have q11_r5 := q11_5.rm
          have q11_r6 := q11_6.rm
          have q11_r7 := q11_7.rm
          have q11_r8 := q11_8.rm
          have q11_r9 := q11_9.rm
          refine VC.inv _ (fun _ h => h.parts (i := 1) rfl q11_S [117, 112, 113, 114, 115, 116]) ?_
          refine VC.regD _ 13 [(0, true), (1, true), (2, true), (3, true), (4, true), (5, true), (6, true), (7, true), (8, true), (9, false), (10, true), (11, false), (12, false)] follows (by kernel_rfl) (fun _ h => h.sub [117, 112, 113, 114, 115, 0]) ?_
          refine VD.y rfl rfl (.inl rfl) (.mv rfl) ?_
          refine VD.y rfl rfl (.inl rfl) (.mv rfl) ?_
          refine VD.y rfl rfl (.inl rfl) (.nilp rfl) ?_
          refine VD.y rfl rfl (.inl rfl) (.fa rfl tst62 rfl) ?_
          refine VD.y rfl rfl (.inl rfl) (.ld1 117 rfl tk60 rfl (cellsAt_one rfl rfl)) ?_
          refine VD.y rfl rfl (.inl rfl) (.mv rfl) ?_
          refine VD.y rfl rfl (.inl rfl) (.mv rfl) ?_
          refine VD.y rfl rfl (.inl rfl) (.mv rfl) ?_
          have hs18 := h_b.pre (j := ((min ((b.length : Nat) : Int) 64).toNat)) bd
          refine VD.y rfl rfl (.inl rfl) (.slHI ((min ((b.length : Nat) : Int) 64).toNat) rfl rfl tsl38 bd bd) ?_
          refine VD.inv _ (fun _ h => h.nilc 120) ?_
          obtain ⟨mo19, cs19, hM19, hA19, hC19⟩ := (OwnL.nil .byte mnil mnil)
          obtain ⟨all19, hS19, hR19⟩ := Rd.srcI (P := Try.prog) (hs18) Try.underlying38
          refine VD.app 120 rfl rfl rfl rfl tsl38 tz5 rfl rfl hM19 hA19 (hS19 _ 0 rfl) hR19.nice bdm bd (by decide) (fun _ _ h => h.sub [117, 112, 113, 114, 115, 0]) (fun v19 m19 hN19 => ?_)
          have ho19 : OwnL .byte m19 mnil v19 ((b).take ((min ((b.length : Nat) : Int) 64).toNat)) := OwnL.more hC19 hN19 (All2c.mono hR19 fun _ _ h => Rd.flat rfl h _)
          obtain ⟨A19, c19, rfl, l19, k19⟩ := ho19.slice
          simp only [maxLen] at k19
          refine VD.y rfl rfl (.inl rfl) (.bst (cs := [Value.int .i64 (0), Value.int .i64 (d1), Value.slice A19 (((b).take ((min ((b.length : Nat) : Int) 64).toNat)).length) (c19), Value.int .i64 (0)]) rfl tst107 tz107 rfl) ?_
          refine VD.bsl (cs := [Value.int .i64 (0), Value.int .i64 (d1), Value.slice A19 (((b).take ((min ((b.length : Nat) : Int) 64).toNat)).length) (c19), Value.int .i64 (0)]) 122 rfl rfl rfl tsl60 tz107 rfl rfl (fun _ h => h.sub [117, 112, 113, 114, 115, 0]) (fun g21 => ?_)
          refine VD.appO (e := Tdiskstep) 116 120 122 rfl rfl rfl rfl tsl60 tz107 rfl rfl rfl rfl q11_9 (mkO_diskstep 0 d1 ((b).take ((min ((b.length : Nat) : Int) 64).toNat)) 0 (Seps.one (mle_refl _)) bdk bdk (OwnL.ow ho19 rfl) bdk) Try.underlying60 (cellsAt_one rfl rfl) bdm bd (by decide) (fun _ _ h => h.sub [117, 112, 113, 114, 115, 0]) (fun v23 m23 ho23 => ?_)
          obtain ⟨A23, c23, rfl, l23, k23⟩ := ho23.slice
          simp only [maxLen] at k23
          refine VD.nil rfl ?_ rfl
          refine VO.y rfl (.nilp rfl) ?_
          refine VO.y rfl (.fa rfl tst62 rfl) ?_
          refine VO.store (k := 1) 117 rfl rfl (.inr ⟨tk60, rfl⟩) rfl rfl rfl rfl rfl ?_
          refine VO.clsP 124 [117, 112, 113, 114, 115, 116] rfl (fun hg24 => (mkP_diskDisk (((burnD d).1).1) (((burnD d).1).2.1) (((burnD d).1).2.2.1) (((burnD d).1).2.2.2.1) (((burnD d).1).2.2.2.2.1) ((((burnD d).1).2.2.2.2.2.1).1) ((((burnD d).1).2.2.2.2.2.1).2.1) ((((burnD d).1).2.2.2.2.2.1).2.2.1) ((((burnD d).1).2.2.2.2.2.1).2.2.2) ((((burnD d).1).2.2.2.2.2.2) ++ [((0, d1, (b).take ((min ((b.length : Nat) : Int) 64).toNat), 0) : Ddiskstep)]) hg24 bdk bdk (OwnL.ow (Ow.ownl q11_5 rfl mnil) rfl) (OwnL.ow (Ow.ownl q11_6 rfl mnil) rfl) (OwnL.ow (Ow.ownl q11_7 rfl mnil) rfl) (OwnL.ow (Ow.ownl q11_8 rfl mnil) rfl) ho23)) (fun mc24 ho24 => ?_)
          refine VO.k9 0 1 2 7 8 12 16 19 22 ?_
          refine outN ?_
          refine VC.reg ?_
          refine VO.mv ?_
          refine VO.mv ?_
          obtain ⟨A25, hA25, hs25⟩ := h_b.drop 1 ((min ((b.length : Nat) : Int) 64).toNat) rfl bd
          refine VO.y rfl (.slLI ((min ((b.length : Nat) : Int) 64).toNat) A25 rfl rfl tsl38 bd hA25 bd) ?_
          refine VO.as ?_
          refine VO.kp [124, 0] [(124, mc24), (0, mout (wm W) (m0))] ?_
          refine VO.k9 0 1 2 7 8 12 16 19 22 ?_
          refine outBN ?_
          have hrl26 : b.length - ((min ((b.length : Nat) : Int) 64).toNat) = (b.drop ((min ((b.length : Nat) : Int) 64).toNat)).length := by simp only [List.length_drop, List.length_take]; try omega
          rw [hrl26]
          exact outN ⟨⟨(((burnD d).1).1, ((burnD d).1).2.1, ((burnD d).1).2.2.1, ((burnD d).1).2.2.2.1, ((burnD d).1).2.2.2.2.1, (((burnD d).1).2.2.2.2.2.1), (((burnD d).1).2.2.2.2.2.2) ++ [((0, d1, (b).take ((min ((b.length : Nat) : Int) 64).toNat), 0) : Ddiskstep)]), mc24, b.drop ((min ((b.length : Nat) : Int) 64).toNat), A25, b_c - ((min ((b.length : Nat) : Int) 64).toNat), n - 1⟩, ⟨by exact write_step hp hn (by omega) (Decidable.not_not.1 ‹¬ ¬ (burnD d).2 = true›) (by omega), by (simp only [List.length_drop]; omega), by exact step_ok hok (Decidable.not_not.1 ‹¬ ¬ inF d1›) (by omega) (by omega), by exact Nat.le_trans (step_w (f := d1) (b := b) (m := (min ((b.length : Nat) : Int) 64).toNat) hok (by omega) (by omega)) hw, (Rd.relen hs25 rfl), ho24⟩, by (simp only [List.length_drop]; omega), ⟨⟨rfl, rfl, rfl, rfl, rfl, rfl, trivial⟩, fun _ h => Inv.sub (Inv.num h 124 1 rfl) [1, 0]⟩⟩
      · -- FFF
        refine VC.exit ?_
        refine outE ?_
        refine outE ?_
        refine outBB ?_
        refine outN ?_
        refine VC.rs ?_
        refine VO.as ?_
        refine VO.kp [1, 0] [(1, d_m), (0, mout (wm W) (m0))] ?_
        refine VO.k8 0 1 2 6 7 12 16 19 ?_
        refine VC.ret ?_
        refine ⟨_, _, res_run (rs := [.tmp 6]) rfl (.tmp rfl .nil), fun W_ hI => out_of (l := [d_m]) hI [1] rfl rfl (mle_refl _) (fun hS_ => ?_)⟩
        dsimp only [packV]
        have hm0_ : ((dWrite d0 d1 d2).1 : DdiskDisk) = d := by first | rfl | (exact fin0_dWrite_ok)
        refine ⟨?_, ?_⟩
        rotate_left
        · rw [hm0_]; exact (Ow.up h_d (hS_.1 _ (.head _)))
        all_goals (first | rfl | (exact fin0_dWrite_ok))
theorem fin0_dCut_ok {P : Prop} (h : P := by first | (rw [cut_bad1 (by assumption)] <;> rfl) | (rw [cut_bad2 (by assumption) (.inl (by assumption))] <;> rfl) | (rw [cut_bad2 (by assumption) (.inr (.inl (by assumption)))] <;> rfl) | (rw [cut_bad2 (by assumption) (.inr (.inr (by assumption)))] <;> rfl) | (rw [cut_go (by assumption) (by assumption) (by assumption) (by assumption) (by assumption)] <;> rfl) | (rw [cut_off (by assumption) (by assumption) (by assumption) (by assumption) (by assumption)] <;> rfl)) : P := h
theorem dCut_ok (W : World) {m0 : Mem} (hm : mle (m0) (wm W)) {g0 : Nat} {d0 : DdiskDisk} (h0 : Ow (.ptr TdiskDisk) m0 [.pointer (some ⟨g0, 0, none⟩)] (g0, d0)) (d1 : Int) (h1 : inK .i64 d1) (d2 : Int) (h2 : inK .i64 d2) (e0 : okD d0) (e1 : wD d0 ≤ 1000000000000) : CallR Try.prog 40 [.pointer (some ⟨g0, 0, none⟩), .int .i64 d1, .int .i64 d2] W (m0) (fun v m' => v = .int .i64 ((dCut d0 d1 d2).2) ∧ Ow (.ptr TdiskDisk) m' [.pointer (some ⟨g0, 0, none⟩)] (g0, (dCut d0 d1 d2).1)) := by
  have h1' := h1; simp only [inK] at h1'
  have h2' := h2; simp only [inK] at h2'
  refine CallR.ofB (n := 43) hm Try.func40 rfl rfl rfl ?_
  refine VC.rs ?_
  refine VO.as ?_
  refine VO.k4 0 1 2 6 ?_
  refine VC.seq ?_
  refine VC.rs ?_
  refine VO.mv ?_
  refine VO.call 1 rfl fnOk65 rfl rfl (fun W hW => dWrong_ok W (hW.at (i := 1) rfl) h0) (fun v1 m1 hv1 => ?_)
  obtain ⟨rfl, w1_0⟩ := hv1
  refine VO.as ?_
  refine VO.k5 0 1 2 6 7 ?_
  refine VC.rs ?_
  refine VO.mv ?_
  refine VO.y rfl (.neq rfl rfl) ?_
  refine VO.kp [1, 0] [(1, m1), (0, mout (wm W) (m0))] ?_
  refine VO.k6 0 1 2 6 7 11 ?_
  refine VC.cond rfl (fun hc2 => ?_) (fun hc2 => ?_)
  · -- T
    refine VC.rs ?_
    refine VO.mv ?_
    refine VO.as ?_
    refine VO.k6 0 1 2 6 7 11 ?_
    refine VC.ret ?_
    refine outR ?_
    refine ⟨_, _, res_run (rs := [.tmp 6]) rfl (.tmp rfl .nil), fun W_ hI => out_of (l := [m1]) hI [1] rfl rfl (mle_refl _) (fun hS_ => ?_)⟩
    dsimp only [packV]
    have hm0_ : ((dCut d0 d1 d2).1 : DdiskDisk) = d0 := by first | rfl | (exact fin0_dCut_ok)
    refine ⟨?_, ?_⟩
    rotate_left
    · rw [hm0_]; exact (Ow.up w1_0 (hS_.1 _ (.head _)))
    all_goals (first | rfl | (exact fin0_dCut_ok))
  · -- F
    refine VC.skip ?_
    refine outN ?_
    refine VC.seq ?_
    refine VC.rs ?_
    refine VO.mv ?_
    refine VO.callN 103 rfl fnOk73 rfl (fun W hW => dIs_ok W d1 bdk) (fun v3 m3 hv3 => ?_)
    subst hv3
    refine VO.y rfl (.notD rfl) ?_
    refine VO.mv ?_
    refine VO.dec (t := 16) rfl (fun hc4 => ?_) (fun hc4 => ?_)
    · -- FT
      refine VO.gN ?_
      refine VO.gN ?_
      refine VO.y rfl (.pT rfl rfl) ?_
      refine VO.mv ?_
      refine VO.gN ?_
      refine VO.gN ?_
      refine VO.gN ?_
      refine VO.gN ?_
      refine VO.gN ?_
      refine VO.gN ?_
      refine VO.y rfl (.pT rfl rfl) ?_
      refine VO.k7 0 1 2 6 7 11 27 ?_
      refine VC.condT rfl ?_
      refine VC.rs ?_
      refine VO.as ?_
      refine VO.k7 0 1 2 6 7 11 27 ?_
      refine VC.ret ?_
      refine outR ?_
      refine ⟨_, _, res_run (rs := [.tmp 6]) rfl (.tmp rfl .nil), fun W_ hI => out_of (l := [m1]) hI [1] rfl rfl (mle_refl _) (fun hS_ => ?_)⟩
      dsimp only [packV]
      have hm0_ : ((dCut d0 d1 d2).1 : DdiskDisk) = d0 := by first | rfl | (exact fin0_dCut_ok)
      refine ⟨?_, ?_⟩
      rotate_left
      · rw [hm0_]; exact (Ow.up w1_0 (hS_.1 _ (.head _)))
      all_goals (first | rfl | (exact fin0_dCut_ok))
    · -- FF
      refine VO.gy rfl ⟨_, rfl, rfl⟩ (.mv rfl) ?_
      refine VO.gy rfl ⟨_, rfl, rfl⟩ (.lss rfl rfl) ?_
      refine VO.y rfl (.pF rfl rfl) ?_
      refine VO.mv ?_
      refine VO.dec (t := 20) rfl (fun hc5 => ?_) (fun hc5 => ?_)
      · -- FFT
        refine VO.gN ?_
        refine VO.gN ?_
        refine VO.gN ?_
        refine VO.gN ?_
        refine VO.gN ?_
        refine VO.gN ?_
        refine VO.y rfl (.pT rfl rfl) ?_
        refine VO.k7 0 1 2 6 7 11 27 ?_
        refine VC.condT rfl ?_
        refine VC.rs ?_
        refine VO.as ?_
        refine VO.k7 0 1 2 6 7 11 27 ?_
        refine VC.ret ?_
        refine outR ?_
        refine ⟨_, _, res_run (rs := [.tmp 6]) rfl (.tmp rfl .nil), fun W_ hI => out_of (l := [m1]) hI [1] rfl rfl (mle_refl _) (fun hS_ => ?_)⟩
        dsimp only [packV]
        have hm0_ : ((dCut d0 d1 d2).1 : DdiskDisk) = d0 := by first | rfl | (exact fin0_dCut_ok)
        refine ⟨?_, ?_⟩
        rotate_left
        · rw [hm0_]; exact (Ow.up w1_0 (hS_.1 _ (.head _)))
        all_goals (first | rfl | (exact fin0_dCut_ok))
      · -- FFF
        refine VO.gy rfl ⟨_, rfl, rfl⟩ (.mv rfl) ?_
        refine VO.gy rfl ⟨_, rfl, rfl⟩ (.mv rfl) ?_
        refine VO.gy rfl ⟨_, rfl, rfl⟩ (.mv rfl) ?_
        refine VO.gcall 1 rfl ⟨_, rfl, rfl⟩ fnOk74 rfl rfl (fun W hW => dHeld_ok W (hW.at (i := 1) rfl) w1_0 d1 bdk (by assumption) bd (by first | assumption | (apply Decidable.not_not.1; assumption))) (fun v6 m6 hv6 => ?_)
        obtain ⟨s6_0, p6_0, p6_1, rfl, hS6, f6_0, w6_0⟩ := hv6
        refine VO.inv _ (fun _ h => h.parts (i := 1) rfl hS6 [107, 108]) ?_
        have hfa9 := heldB_size d0.2.2.2.2.2.1 d0.2.2.2.2.2.2 d1
        obtain ⟨A6_0, c6_0, eq6_0, l6_0, k6_0⟩ := f6_0.slice
        subst eq6_0
        simp only [maxLen] at k6_0
        refine VO.gy rfl ⟨_, rfl, rfl⟩ (.lenS rfl tsl38) ?_
        refine VO.gy rfl ⟨_, rfl, rfl⟩ (.gtr rfl rfl) ?_
        refine VO.y rfl (.pF rfl rfl) ?_
        refine VO.k7 0 1 2 6 7 11 27 ?_
        refine VC.cond rfl (fun hc10 => ?_) (fun hc10 => ?_)
        · -- FFFT
          refine VC.rs ?_
          refine VO.as ?_
          refine VO.k7 0 1 2 6 7 11 27 ?_
          refine VC.ret ?_
          refine outR ?_
          refine ⟨_, _, res_run (rs := [.tmp 6]) rfl (.tmp rfl .nil), fun W_ hI => out_of (l := [p6_1]) hI [108] rfl rfl (mle_refl _) (fun hS_ => ?_)⟩
          dsimp only [packV]
          have hm0_ : ((dCut d0 d1 d2).1 : DdiskDisk) = d0 := by first | rfl | (exact fin0_dCut_ok)
          refine ⟨?_, ?_⟩
          rotate_left
          · rw [hm0_]; exact (Ow.up w6_0 (hS_.1 _ (.head _)))
          all_goals (first | rfl | (exact fin0_dCut_ok))
        · -- FFFF
          refine VC.skip ?_
          refine outN ?_
          refine VC.seq ?_
          refine VC.rs ?_
          refine VO.mv ?_
          refine VO.call 108 rfl fnOk76 rfl rfl (fun W hW => dBurn_ok W (hW.at (i := 108) rfl) w6_0 (by assumption) bd) (fun v11 m11 hv11 => ?_)
          obtain ⟨rfl, w11_0⟩ := hv11
          have hfa12 := (burn_ok (show okD d0 by assumption))
          have hfa13 := (burn_w (show okD d0 by assumption))
          have hfa14 := (len_w (burnD d0).1)
          refine VO.y rfl (.notD rfl) ?_
          refine VO.k8 0 1 2 6 7 11 27 30 ?_
          refine VC.cond rfl (fun hc15 => ?_) (fun hc15 => ?_)
          · -- FFFFT
            refine VC.rs ?_
            refine VO.as ?_
            refine VO.kp [108, 0] [(108, m11), (0, mout (wm W) (m0))] ?_
            refine VO.k8 0 1 2 6 7 11 27 30 ?_
            refine VC.ret ?_
            refine outR ?_
            refine ⟨_, _, res_run (rs := [.tmp 6]) rfl (.tmp rfl .nil), fun W_ hI => out_of (l := [m11]) hI [108] rfl rfl (mle_refl _) (fun hS_ => ?_)⟩
            dsimp only [packV]
            have hm0_ : ((dCut d0 d1 d2).1 : DdiskDisk) = (burnD d0).1 := by first | rfl | (exact fin0_dCut_ok)
            refine ⟨?_, ?_⟩
            rotate_left
            · rw [hm0_]; exact (Ow.up w11_0 (hS_.1 _ (.head _)))
            all_goals (first | rfl | (exact fin0_dCut_ok))
          · -- FFFFF
            refine VC.skip ?_
            refine outN ?_
            refine VC.rs ?_
            refine VO.mv ?_
            refine VO.mv ?_
            refine VO.y rfl (.nilp rfl) ?_
            refine VO.y rfl (.fa rfl tst62 rfl) ?_
            obtain ⟨q16_E, q16_A5, q16_c5, q16_A6, q16_c6, q16_A7, q16_c7, q16_A8, q16_c8, q16_A9, q16_c9, q16_n5, q16_n6, q16_n7, q16_n8, q16_n9, _, q16_S, q16_3, q16_4, q16_5, q16_6, q16_7, q16_8, q16_9⟩ := openP_diskDisk (x0 := ((burnD d0).1).1) (x1 := ((burnD d0).1).2.1) (x2 := ((burnD d0).1).2.2.1) (x3 := ((burnD d0).1).2.2.2.1) (x4 := ((burnD d0).1).2.2.2.2.1) (x5 := (((burnD d0).1).2.2.2.2.2.1).1) (x6 := (((burnD d0).1).2.2.2.2.2.1).2.1) (x7 := (((burnD d0).1).2.2.2.2.2.1).2.2.1) (x8 := (((burnD d0).1).2.2.2.2.2.1).2.2.2) (x9 := ((burnD d0).1).2.2.2.2.2.2) w11_0
            simp only [inK] at q16_3
            simp only [inK] at q16_4
            have q16_r5 := q16_5.rm
            have q16_r6 := q16_6.rm
            have q16_r7 := q16_7.rm
            have q16_r8 := q16_8.rm
            have q16_r9 := q16_9.rm
            refine VO.inv _ (fun _ h => h.parts (i := 108) rfl q16_S [122, 117, 118, 119, 120, 121]) ?_
            refine VO.y rfl (.ld1 122 rfl tk60 rfl (cellsAt_one rfl rfl)) ?_
            refine VO.mv ?_
            refine VO.mv ?_
            refine VO.y rfl (.bst (cs := [Value.int .i64 (1), Value.int .i64 (d1), Value.slice none (0) (0), Value.int .i64 (d2)]) rfl tst107 tz107 rfl) ?_
            refine VO.bsl (cs := [Value.int .i64 (1), Value.int .i64 (d1), Value.slice none (0) (0), Value.int .i64 (d2)]) 124 rfl rfl tsl60 tz107 rfl rfl (fun g23 => ?_)
            refine VO.inv ((126, mnil) :: _) (fun _ h => h.nilc 126) ?_
            refine VO.appO (e := Tdiskstep) 121 126 124 rfl rfl rfl tsl60 tz107 rfl rfl rfl rfl q16_9 (mkO_diskstep 1 d1 [] d2 (Seps.nilAt 0 (Seps.nil _)) bdk bdk (Ow.nil _ _) bdk) Try.underlying60 (cellsAt_one rfl rfl) bdm bd (by decide) (fun v25 m25 ho25 => ?_)
            obtain ⟨A25, c25, rfl, l25, k25⟩ := ho25.slice
            simp only [maxLen] at k25
            refine VO.y rfl (.nilp rfl) ?_
            refine VO.y rfl (.fa rfl tst62 rfl) ?_
            refine VO.store (k := 1) 122 rfl rfl (.inr ⟨tk60, rfl⟩) rfl rfl rfl rfl rfl ?_
            refine VO.clsP 127 [122, 117, 118, 119, 120, 121] rfl (fun hg27 => (mkP_diskDisk (((burnD d0).1).1) (((burnD d0).1).2.1) (((burnD d0).1).2.2.1) (((burnD d0).1).2.2.2.1) (((burnD d0).1).2.2.2.2.1) ((((burnD d0).1).2.2.2.2.2.1).1) ((((burnD d0).1).2.2.2.2.2.1).2.1) ((((burnD d0).1).2.2.2.2.2.1).2.2.1) ((((burnD d0).1).2.2.2.2.2.1).2.2.2) ((((burnD d0).1).2.2.2.2.2.2) ++ [((1, d1, [], d2) : Ddiskstep)]) hg27 bdk bdk (OwnL.ow (Ow.ownl q16_5 rfl mnil) rfl) (OwnL.ow (Ow.ownl q16_6 rfl mnil) rfl) (OwnL.ow (Ow.ownl q16_7 rfl mnil) rfl) (OwnL.ow (Ow.ownl q16_8 rfl mnil) rfl) ho25)) (fun mc27 ho27 => ?_)
            refine VO.kp [127, 0] [(127, mc27), (0, mout (wm W) (m0))] ?_
            refine VO.k8 0 1 2 6 7 11 27 30 ?_
            refine VC.rs ?_
            refine VO.as ?_
            refine VO.k8 0 1 2 6 7 11 27 30 ?_
            refine VC.ret ?_
            refine ⟨_, _, res_run (rs := [.tmp 6]) rfl (.tmp rfl .nil), fun W_ hI => out_of (l := [mc27]) hI [127] rfl rfl (mle_refl _) (fun hS_ => ?_)⟩
            dsimp only [packV]
            have hm0_ : ((dCut d0 d1 d2).1 : DdiskDisk) = (((burnD d0).1).1, ((burnD d0).1).2.1, ((burnD d0).1).2.2.1, ((burnD d0).1).2.2.2.1, ((burnD d0).1).2.2.2.2.1, (((burnD d0).1).2.2.2.2.2.1), (((burnD d0).1).2.2.2.2.2.2) ++ [((1, d1, [], d2) : Ddiskstep)]) := by first | rfl | (exact fin0_dCut_ok)
            refine ⟨?_, ?_⟩
            rotate_left
            · rw [hm0_]; exact (Ow.up ho27 (hS_.1 _ (.head _)))
            all_goals (first | rfl | (exact fin0_dCut_ok))
theorem dSync_ok (W : World) {m0 : Mem} (hm : mle (m0) (wm W)) {g0 : Nat} {d0 : DdiskDisk} (h0 : Ow (.ptr TdiskDisk) m0 [.pointer (some ⟨g0, 0, none⟩)] (g0, d0)) (e0 : okD d0) (e1 : wD d0 ≤ 1000000000000) : CallR Try.prog 41 [.pointer (some ⟨g0, 0, none⟩)] W (m0) (fun v m' => v = .int .i64 ((dSync d0).2) ∧ Ow (.ptr TdiskDisk) m' [.pointer (some ⟨g0, 0, none⟩)] (g0, (dSync d0).1)) := by
  refine CallR.ofB (n := 19) hm Try.func41 rfl rfl rfl ?_
  refine VC.rs ?_
  refine VO.as ?_
  refine VO.k2 0 2 ?_
  refine VC.seq ?_
  refine VC.rs ?_
  refine VO.mv ?_
  refine VO.call 1 rfl fnOk65 rfl rfl (fun W hW => dWrong_ok W (hW.at (i := 1) rfl) h0) (fun v1 m1 hv1 => ?_)
  obtain ⟨rfl, w1_0⟩ := hv1
  refine VO.as ?_
  refine VO.k3 0 2 3 ?_
  refine VC.rs ?_
  refine VO.mv ?_
  refine VO.y rfl (.neq rfl rfl) ?_
  refine VO.kp [1, 0] [(1, m1), (0, mout (wm W) (m0))] ?_
  refine VO.k4 0 2 3 7 ?_
  refine VC.cond rfl (fun hc2 => ?_) (fun hc2 => ?_)
  · -- T
    refine VC.rs ?_
    refine VO.mv ?_
    refine VO.as ?_
    refine VO.k4 0 2 3 7 ?_
    refine VC.ret ?_
    refine outR ?_
    refine ⟨_, _, res_run (rs := [.tmp 2]) rfl (.tmp rfl .nil), fun W_ hI => out_of (l := [m1]) hI [1] rfl rfl (mle_refl _) (fun hS_ => ?_)⟩
    dsimp only [packV]
    have hm0_ : ((dSync d0).1 : DdiskDisk) = d0 := by first | rfl | (first | (rw [sync_bad (by assumption)] <;> rfl) | (rw [sync_off (by assumption) (by assumption)] <;> rfl) | (rw [sync_go (by assumption) (by assumption)] <;> rfl))
    refine ⟨?_, ?_⟩
    rotate_left
    · rw [hm0_]; exact (Ow.up w1_0 (hS_.1 _ (.head _)))
    all_goals (first | rfl | (first | (rw [sync_bad (by assumption)] <;> rfl) | (rw [sync_off (by assumption) (by assumption)] <;> rfl) | (rw [sync_go (by assumption) (by assumption)] <;> rfl)))
  · -- F
    refine VC.skip ?_
    refine outN ?_
    refine VC.seq ?_
    refine VC.rs ?_
    refine VO.mv ?_
    refine VO.call 1 rfl fnOk76 rfl rfl (fun W hW => dBurn_ok W (hW.at (i := 1) rfl) w1_0 (by assumption) bd) (fun v3 m3 hv3 => ?_)
    obtain ⟨rfl, w3_0⟩ := hv3
    have hfa4 := (burn_ok (show okD d0 by assumption))
    have hfa5 := (burn_w (show okD d0 by assumption))
    have hfa6 := (len_w (burnD d0).1)
    refine VO.y rfl (.notD rfl) ?_
    refine VO.k5 0 2 3 7 11 ?_
    refine VC.cond rfl (fun hc7 => ?_) (fun hc7 => ?_)
    · -- FT
      refine VC.rs ?_
      refine VO.as ?_
      refine VO.k5 0 2 3 7 11 ?_
      refine VC.ret ?_
      refine outR ?_
      refine ⟨_, _, res_run (rs := [.tmp 2]) rfl (.tmp rfl .nil), fun W_ hI => out_of (l := [m3]) hI [1] rfl rfl (mle_refl _) (fun hS_ => ?_)⟩
      dsimp only [packV]
      have hm0_ : ((dSync d0).1 : DdiskDisk) = (burnD d0).1 := by first | rfl | (first | (rw [sync_bad (by assumption)] <;> rfl) | (rw [sync_off (by assumption) (by assumption)] <;> rfl) | (rw [sync_go (by assumption) (by assumption)] <;> rfl))
      refine ⟨?_, ?_⟩
      rotate_left
      · rw [hm0_]; exact (Ow.up w3_0 (hS_.1 _ (.head _)))
      all_goals (first | rfl | (first | (rw [sync_bad (by assumption)] <;> rfl) | (rw [sync_off (by assumption) (by assumption)] <;> rfl) | (rw [sync_go (by assumption) (by assumption)] <;> rfl)))
    · -- FF
      refine VC.skip ?_
      refine outN ?_
      refine VC.rs ?_
      refine VO.mv ?_
      refine VO.mv ?_
      refine VO.y rfl (.nilp rfl) ?_
      refine VO.y rfl (.fa rfl tst62 rfl) ?_
      obtain ⟨q8_E, q8_A5, q8_c5, q8_A6, q8_c6, q8_A7, q8_c7, q8_A8, q8_c8, q8_A9, q8_c9, q8_n5, q8_n6, q8_n7, q8_n8, q8_n9, _, q8_S, q8_3, q8_4, q8_5, q8_6, q8_7, q8_8, q8_9⟩ := openP_diskDisk (x0 := ((burnD d0).1).1) (x1 := ((burnD d0).1).2.1) (x2 := ((burnD d0).1).2.2.1) (x3 := ((burnD d0).1).2.2.2.1) (x4 := ((burnD d0).1).2.2.2.2.1) (x5 := (((burnD d0).1).2.2.2.2.2.1).1) (x6 := (((burnD d0).1).2.2.2.2.2.1).2.1) (x7 := (((burnD d0).1).2.2.2.2.2.1).2.2.1) (x8 := (((burnD d0).1).2.2.2.2.2.1).2.2.2) (x9 := ((burnD d0).1).2.2.2.2.2.2) w3_0
      simp only [inK] at q8_3
      simp only [inK] at q8_4
      have q8_r5 := q8_5.rm
      have q8_r6 := q8_6.rm
      have q8_r7 := q8_7.rm
      have q8_r8 := q8_8.rm
      have q8_r9 := q8_9.rm
      refine VO.inv _ (fun _ h => h.parts (i := 1) rfl q8_S [114, 109, 110, 111, 112, 113]) ?_
      refine VO.y rfl (.ld1 114 rfl tk60 rfl (cellsAt_one rfl rfl)) ?_
      refine VO.y rfl (.lenS rfl tsl60) ?_
      refine VO.clsP 116 [114, 109, 110, 111, 112, 113] rfl (fun hg16 => (show Ow (.ptr TdiskDisk) _ _ (_, ((burnD d0).1)) from (mkP_diskDisk (((burnD d0).1).1) (((burnD d0).1).2.1) (((burnD d0).1).2.2.1) (((burnD d0).1).2.2.2.1) (((burnD d0).1).2.2.2.2.1) ((((burnD d0).1).2.2.2.2.2.1).1) ((((burnD d0).1).2.2.2.2.2.1).2.1) ((((burnD d0).1).2.2.2.2.2.1).2.2.1) ((((burnD d0).1).2.2.2.2.2.1).2.2.2) (((burnD d0).1).2.2.2.2.2.2) hg16 bdk bdk (OwnL.ow (Ow.ownl q8_5 rfl mnil) rfl) (OwnL.ow (Ow.ownl q8_6 rfl mnil) rfl) (OwnL.ow (Ow.ownl q8_7 rfl mnil) rfl) (OwnL.ow (Ow.ownl q8_8 rfl mnil) rfl) q8_9))) (fun mc16 ho16 => ?_)
      refine VO.call 116 rfl fnOk70 rfl rfl (fun W hW => dSettle_ok W (hW.at (i := 116) rfl) ho16 (((((burnD d0).1).2.2.2.2.2.2).length : Nat) : Int) bdk (by assumption) bd bd) (fun v15 m15 hv15 => ?_)
      obtain ⟨rfl, w15_0⟩ := hv15
      have hfa17 := (settle_ok (((((burnD d0).1).2.2.2.2.2.2).length : Nat) : Int).toNat (show okD ((burnD d0).1) by assumption))
      have hfa18 := (settle_w ((burnD d0).1) (((((burnD d0).1).2.2.2.2.2.2).length : Nat) : Int).toNat)
      refine VO.k5 0 2 3 7 11 ?_
      refine VC.rs ?_
      refine VO.as ?_
      refine VO.kp [116, 0] [(116, m15), (0, mout (wm W) (m0))] ?_
      refine VO.k5 0 2 3 7 11 ?_
      refine VC.ret ?_
      refine ⟨_, _, res_run (rs := [.tmp 2]) rfl (.tmp rfl .nil), fun W_ hI => out_of (l := [m15]) hI [116] rfl rfl (mle_refl _) (fun hS_ => ?_)⟩
      dsimp only [packV]
      have hm0_ : ((dSync d0).1 : DdiskDisk) = settleD ((burnD d0).1) (((((burnD d0).1).2.2.2.2.2.2).length : Nat) : Int).toNat := by first | rfl | (first | (rw [sync_bad (by assumption)] <;> rfl) | (rw [sync_off (by assumption) (by assumption)] <;> rfl) | (rw [sync_go (by assumption) (by assumption)] <;> rfl))
      refine ⟨?_, ?_⟩
      rotate_left
      · rw [hm0_]; exact (Ow.up w15_0 (hS_.1 _ (.head _)))
      all_goals (first | rfl | (first | (rw [sync_bad (by assumption)] <;> rfl) | (rw [sync_off (by assumption) (by assumption)] <;> rfl) | (rw [sync_go (by assumption) (by assumption)] <;> rfl)))
theorem dRead_ok (W : World) {m0 : Mem} (hm : mle (m0) (wm W)) {g0 : Nat} {d0 : DdiskDisk} (h0 : Ow (.ptr TdiskDisk) m0 [.pointer (some ⟨g0, 0, none⟩)] (g0, d0)) (d1 : Int) (h1 : inK .i64 d1) (e0 : okD d0) (e1 : wD d0 ≤ 1000000000000) : CallR Try.prog 38 [.pointer (some ⟨g0, 0, none⟩), .int .i64 d1] W (m0) (fun v m' => ∃ (s0 : Value), ∃ (p0 : Mem), ∃ (p1 : Mem), v = .tuple #[s0, .int .i64 ((dRead d0 d1).2)] ∧ Seps m' [p0, p1] ∧ Ow (.sl .byte) p0 [s0] ((dRead d0 d1).1) ∧ Ow (.ptr TdiskDisk) p1 [.pointer (some ⟨g0, 0, none⟩)] (g0, d0)) := by
  have h1' := h1; simp only [inK] at h1'
  refine CallR.ofB (n := 18) hm Try.func38 rfl rfl rfl ?_
  refine VC.rs ?_
  refine VO.as ?_
  refine VO.as ?_
  refine VO.k4 0 1 4 5 ?_
  refine VC.seq ?_
  refine VC.rs ?_
  refine VO.mv ?_
  refine VO.call 1 rfl fnOk65 rfl rfl (fun W hW => dWrong_ok W (hW.at (i := 1) rfl) h0) (fun v1 m1 hv1 => ?_)
  obtain ⟨rfl, w1_0⟩ := hv1
  refine VO.as ?_
  refine VO.k5 0 1 4 5 6 ?_
  refine VC.rs ?_
  refine VO.mv ?_
  refine VO.y rfl (.neq rfl rfl) ?_
  refine VO.kp [1, 0] [(1, m1), (0, mout (wm W) (m0))] ?_
  refine VO.k6 0 1 4 5 6 10 ?_
  refine VC.cond rfl (fun hc2 => ?_) (fun hc2 => ?_)
  · -- T
    refine VC.rs ?_
    refine VO.mv ?_
    refine VO.as ?_
    refine VO.as ?_
    refine VO.k6 0 1 4 5 6 10 ?_
    refine VC.ret ?_
    refine outR ?_
    refine ⟨_, _, res_run (rs := [.tmp 4, .tmp 5]) rfl (.tmp rfl (.tmp rfl .nil)), fun W_ hI => out_of (l := [m1]) hI [1] rfl rfl (mle_refl _) (fun hS_ => ?_)⟩
    dsimp only [packV]
    have he0 : ((dRead d0 d1).1 : Ty.Den (.sl .byte)) = [] := by first | rfl | (first | rfl | (simp [dRead, *]; done))
    have hm0_ : (d0 : DdiskDisk) = d0 := by first | rfl | (first | rfl | (simp [dRead, *]; done))
    refine ⟨Value.slice none (0) (0), muns [], muns [m1], ?_, ?_, ?_, ?_⟩
    rotate_left
    · exact Seps.grp (ls := [[], [m1]]) hS_
    · rw [he0]; exact (Ow.nil _ _)
    · rw [hm0_]; exact (Ow.up w1_0 ((Seps.self hS_ (List.Sublist.cons_cons _ List.Sublist.slnil)).1 _ (.head _)))
    all_goals (first | rfl | (first | rfl | (simp [dRead, *]; done)))
  · -- F
    refine VC.skip ?_
    refine outN ?_
    refine VC.seq ?_
    refine VC.rs ?_
    refine VO.mv ?_
    refine VO.callN 103 rfl fnOk73 rfl (fun W hW => dIs_ok W d1 bdk) (fun v3 m3 hv3 => ?_)
    subst hv3
    refine VO.y rfl (.notD rfl) ?_
    refine VO.k7 0 1 4 5 6 10 14 ?_
    refine VC.cond rfl (fun hc4 => ?_) (fun hc4 => ?_)
    · -- FT
      refine VC.rs ?_
      refine VO.as ?_
      refine VO.as ?_
      refine VO.k7 0 1 4 5 6 10 14 ?_
      refine VC.ret ?_
      refine outR ?_
      refine ⟨_, _, res_run (rs := [.tmp 4, .tmp 5]) rfl (.tmp rfl (.tmp rfl .nil)), fun W_ hI => out_of (l := [m1]) hI [1] rfl rfl (mle_refl _) (fun hS_ => ?_)⟩
      dsimp only [packV]
      have he0 : ((dRead d0 d1).1 : Ty.Den (.sl .byte)) = [] := by first | rfl | (first | rfl | (simp [dRead, *]; done))
      have hm0_ : (d0 : DdiskDisk) = d0 := by first | rfl | (first | rfl | (simp [dRead, *]; done))
      refine ⟨Value.slice none (0) (0), muns [], muns [m1], ?_, ?_, ?_, ?_⟩
      rotate_left
      · exact Seps.grp (ls := [[], [m1]]) hS_
      · rw [he0]; exact (Ow.nil _ _)
      · rw [hm0_]; exact (Ow.up w1_0 ((Seps.self hS_ (List.Sublist.cons_cons _ List.Sublist.slnil)).1 _ (.head _)))
      all_goals (first | rfl | (first | rfl | (simp [dRead, *]; done)))
    · -- FF
      refine VC.skip ?_
      refine outN ?_
      refine VC.rs ?_
      refine VO.mv ?_
      refine VO.mv ?_
      refine VO.call 1 rfl fnOk74 rfl rfl (fun W hW => dHeld_ok W (hW.at (i := 1) rfl) w1_0 d1 bdk (by assumption) bd (by first | assumption | (apply Decidable.not_not.1; assumption))) (fun v5 m5 hv5 => ?_)
      obtain ⟨s5_0, p5_0, p5_1, rfl, hS5, f5_0, w5_0⟩ := hv5
      refine VO.inv _ (fun _ h => h.parts (i := 1) rfl hS5 [106, 107]) ?_
      have hfa8 := heldB_size d0.2.2.2.2.2.1 d0.2.2.2.2.2.2 d1
      obtain ⟨A5_0, c5_0, eq5_0, l5_0, k5_0⟩ := f5_0.slice
      subst eq5_0
      simp only [maxLen] at k5_0
      refine VO.as ?_
      refine VO.as ?_
      refine VO.k7 0 1 4 5 6 10 14 ?_
      refine VC.ret ?_
      refine ⟨_, _, res_run (rs := [.tmp 4, .tmp 5]) rfl (.tmp rfl (.tmp rfl .nil)), fun W_ hI => out_of (l := [p5_0, p5_1]) hI [106, 107] rfl rfl (mle_refl _) (fun hS_ => ?_)⟩
      dsimp only [packV]
      have he0 : ((dRead d0 d1).1 : Ty.Den (.sl .byte)) = heldB d0.2.2.2.2.2.1 d0.2.2.2.2.2.2 d1 := by first | rfl | (first | rfl | (simp [dRead, *]; done))
      have hm0_ : (d0 : DdiskDisk) = d0 := by first | rfl | (first | rfl | (simp [dRead, *]; done))
      refine ⟨Value.slice A5_0 ((heldB d0.2.2.2.2.2.1 d0.2.2.2.2.2.2 d1).length) (c5_0), muns [p5_0], muns [p5_1], ?_, ?_, ?_, ?_⟩
      rotate_left
      · exact Seps.grp (ls := [[p5_0], [p5_1]]) hS_
      · rw [he0]; exact (Ow.up (OwnL.ow (Ow.ownl f5_0 rfl mnil) rfl) ((Seps.self hS_ (List.Sublist.cons_cons _ (List.Sublist.cons _ List.Sublist.slnil))).1 _ (.head _)))
      · rw [hm0_]; exact (Ow.up w5_0 ((Seps.self hS_ (List.Sublist.cons _ (List.Sublist.cons_cons _ List.Sublist.slnil))).1 _ (.head _)))
      all_goals (first | rfl | (first | rfl | (simp [dRead, *]; done)))
theorem dPull_ok (W : World) {m0 : Mem} (hm : mle (m0) (wm W)) {g0 : Nat} {d0 : DdiskDisk} (h0 : Ow (.ptr TdiskDisk) m0 [.pointer (some ⟨g0, 0, none⟩)] (g0, d0)) (e0 : okD d0) : CallR Try.prog 33 [.pointer (some ⟨g0, 0, none⟩)] W (m0) (fun v m' => v = .int .i64 ((dPull d0).2) ∧ Ow (.ptr TdiskDisk) m' [.pointer (some ⟨g0, 0, none⟩)] (g0, (dPull d0).1)) := by
  refine CallR.ofB (n := 12) hm Try.func33 rfl rfl rfl ?_
  refine VC.rs ?_
  refine VO.as ?_
  refine VO.k2 0 2 ?_
  refine VC.seq ?_
  refine VC.rs ?_
  refine VO.mv ?_
  refine VO.call 1 rfl fnOk65 rfl rfl (fun W hW => dWrong_ok W (hW.at (i := 1) rfl) h0) (fun v1 m1 hv1 => ?_)
  obtain ⟨rfl, w1_0⟩ := hv1
  refine VO.as ?_
  refine VO.k3 0 2 3 ?_
  refine VC.rs ?_
  refine VO.mv ?_
  refine VO.y rfl (.neq rfl rfl) ?_
  refine VO.kp [1, 0] [(1, m1), (0, mout (wm W) (m0))] ?_
  refine VO.k4 0 2 3 7 ?_
  refine VC.cond rfl (fun hc2 => ?_) (fun hc2 => ?_)
  · -- T
    refine VC.rs ?_
    refine VO.mv ?_
    refine VO.as ?_
    refine VO.k4 0 2 3 7 ?_
    refine VC.ret ?_
    refine outR ?_
    refine ⟨_, _, res_run (rs := [.tmp 2]) rfl (.tmp rfl .nil), fun W_ hI => out_of (l := [m1]) hI [1] rfl rfl (mle_refl _) (fun hS_ => ?_)⟩
    dsimp only [packV]
    have hm0_ : ((dPull d0).1 : DdiskDisk) = d0 := by first | rfl | (first | rfl | (simp [dPull, *]; done))
    refine ⟨?_, ?_⟩
    rotate_left
    · rw [hm0_]; exact (Ow.up w1_0 (hS_.1 _ (.head _)))
    all_goals (first | rfl | (first | rfl | (simp [dPull, *]; done)))
  · -- F
    refine VC.skip ?_
    refine outN ?_
    refine VC.rs ?_
    refine VO.mv ?_
    refine VO.y rfl (.nilp rfl) ?_
    refine VO.y rfl (.fa rfl tst62 rfl) ?_
    obtain ⟨q3_E, q3_A5, q3_c5, q3_A6, q3_c6, q3_A7, q3_c7, q3_A8, q3_c8, q3_A9, q3_c9, q3_n5, q3_n6, q3_n7, q3_n8, q3_n9, _, q3_S, q3_3, q3_4, q3_5, q3_6, q3_7, q3_8, q3_9⟩ := openP_diskDisk (x0 := d0.1) (x1 := d0.2.1) (x2 := d0.2.2.1) (x3 := d0.2.2.2.1) (x4 := d0.2.2.2.2.1) (x5 := d0.2.2.2.2.2.1.1) (x6 := d0.2.2.2.2.2.1.2.1) (x7 := d0.2.2.2.2.2.1.2.2.1) (x8 := d0.2.2.2.2.2.1.2.2.2) (x9 := d0.2.2.2.2.2.2) w1_0
    simp only [inK] at q3_3
    simp only [inK] at q3_4
    have q3_r5 := q3_5.rm
    have q3_r6 := q3_6.rm
    have q3_r7 := q3_7.rm
    have q3_r8 := q3_8.rm
    have q3_r9 := q3_9.rm
    refine VO.inv _ (fun _ h => h.parts (i := 1) rfl q3_S [109, 104, 105, 106, 107, 108]) ?_
    refine VO.store (k := 1) 109 rfl rfl (.inr ⟨tk4, rfl⟩) rfl rfl rfl rfl rfl ?_
    refine VO.clsP 110 [109, 104, 105, 106, 107, 108] rfl (fun hg10 => (mkP_diskDisk d0.1 true d0.2.2.1 d0.2.2.2.1 d0.2.2.2.2.1 d0.2.2.2.2.2.1.1 d0.2.2.2.2.2.1.2.1 d0.2.2.2.2.2.1.2.2.1 d0.2.2.2.2.2.1.2.2.2 d0.2.2.2.2.2.2 hg10 bdk bdk (OwnL.ow (Ow.ownl q3_5 rfl mnil) rfl) (OwnL.ow (Ow.ownl q3_6 rfl mnil) rfl) (OwnL.ow (Ow.ownl q3_7 rfl mnil) rfl) (OwnL.ow (Ow.ownl q3_8 rfl mnil) rfl) q3_9)) (fun mc10 ho10 => ?_)
    refine VO.k4 0 2 3 7 ?_
    refine VC.rs ?_
    refine VO.as ?_
    refine VO.k4 0 2 3 7 ?_
    refine VC.ret ?_
    refine ⟨_, _, res_run (rs := [.tmp 2]) rfl (.tmp rfl .nil), fun W_ hI => out_of (l := [mc10]) hI [110] rfl rfl (mle_refl _) (fun hS_ => ?_)⟩
    dsimp only [packV]
    have hm0_ : ((dPull d0).1 : DdiskDisk) = (d0.1, true, d0.2.2) := by first | rfl | (first | rfl | (simp [dPull, *]; done))
    refine ⟨?_, ?_⟩
    rotate_left
    · rw [hm0_]; exact (Ow.up ho10 (hS_.1 _ (.head _)))
    all_goals (first | rfl | (first | rfl | (simp [dPull, *]; done)))
theorem dOn_ok (W : World) {m0 : Mem} (hm : mle (m0) (wm W)) {g0 : Nat} {d0 : DdiskDisk} (h0 : Ow (.ptr TdiskDisk) m0 [.pointer (some ⟨g0, 0, none⟩)] (g0, d0)) : CallR Try.prog 32 [.pointer (some ⟨g0, 0, none⟩)] W (m0) (fun v m' => v = .bool (decide (d0.1 = true ∧ d0.2.1 = false)) ∧ Ow (.ptr TdiskDisk) m' [.pointer (some ⟨g0, 0, none⟩)] (g0, d0)) := by
  refine CallR.ofB (n := 13) hm Try.func32 rfl rfl rfl ?_
  refine VC.rs ?_
  refine VO.as ?_
  refine VO.k2 0 2 ?_
  refine VC.rs ?_
  refine VO.mv ?_
  refine VO.call 1 rfl fnOk69 rfl rfl (fun W hW => dNone_ok W (hW.at (i := 1) rfl) h0) (fun v1 m1 hv1 => ?_)
  obtain ⟨rfl, w1_0⟩ := hv1
  refine VO.y rfl (.notD rfl) ?_
  refine VO.mv ?_
  refine VO.dec (t := 6) rfl (fun hc2 => ?_) (fun hc2 => ?_)
  · -- T
    refine VO.gy rfl ⟨_, rfl, rfl⟩ (.mv rfl) ?_
    refine VO.gy rfl ⟨_, rfl, rfl⟩ (.nilp rfl) ?_
    refine VO.gy rfl ⟨_, rfl, rfl⟩ (.fa rfl tst62 rfl) ?_
    obtain ⟨q3_E, q3_A5, q3_c5, q3_A6, q3_c6, q3_A7, q3_c7, q3_A8, q3_c8, q3_A9, q3_c9, q3_n5, q3_n6, q3_n7, q3_n8, q3_n9, _, q3_S, q3_3, q3_4, q3_5, q3_6, q3_7, q3_8, q3_9⟩ := openP_diskDisk (x0 := d0.1) (x1 := d0.2.1) (x2 := d0.2.2.1) (x3 := d0.2.2.2.1) (x4 := d0.2.2.2.2.1) (x5 := d0.2.2.2.2.2.1.1) (x6 := d0.2.2.2.2.2.1.2.1) (x7 := d0.2.2.2.2.2.1.2.2.1) (x8 := d0.2.2.2.2.2.1.2.2.2) (x9 := d0.2.2.2.2.2.2) w1_0
    simp only [inK] at q3_3
    simp only [inK] at q3_4
    have q3_r5 := q3_5.rm
    have q3_r6 := q3_6.rm
    have q3_r7 := q3_7.rm
    have q3_r8 := q3_8.rm
    have q3_r9 := q3_9.rm
    refine VO.inv _ (fun _ h => h.parts (i := 1) rfl q3_S [109, 104, 105, 106, 107, 108]) ?_
    refine VO.gy rfl ⟨_, rfl, rfl⟩ (.ld1 109 rfl tk4 rfl (cellsAt_one rfl rfl)) ?_
    refine VO.gy rfl ⟨_, rfl, rfl⟩ (.not rfl) ?_
    refine VO.y rfl (.pT rfl rfl) ?_
    refine VO.as ?_
    refine VO.clsP 110 [109, 104, 105, 106, 107, 108] rfl (fun hg10 => (show Ow (.ptr TdiskDisk) _ _ (_, d0) from (mkP_diskDisk d0.1 d0.2.1 d0.2.2.1 d0.2.2.2.1 d0.2.2.2.2.1 d0.2.2.2.2.2.1.1 d0.2.2.2.2.2.1.2.1 d0.2.2.2.2.2.1.2.2.1 d0.2.2.2.2.2.1.2.2.2 d0.2.2.2.2.2.2 hg10 bdk bdk (OwnL.ow (Ow.ownl q3_5 rfl mnil) rfl) (OwnL.ow (Ow.ownl q3_6 rfl mnil) rfl) (OwnL.ow (Ow.ownl q3_7 rfl mnil) rfl) (OwnL.ow (Ow.ownl q3_8 rfl mnil) rfl) q3_9))) (fun mc10 ho10 => ?_)
    refine VO.k2 0 2 ?_
    refine VC.ret ?_
    refine ⟨_, _, res_run (rs := [.tmp 2]) rfl (.tmp rfl .nil), fun W_ hI => out_of (l := [mc10]) hI [110] rfl rfl (mle_refl _) (fun hS_ => ?_)⟩
    dsimp only [packV]
    have hm0_ : (d0 : DdiskDisk) = d0 := by first | rfl | (simp [*]; done)
    refine ⟨?_, ?_⟩
    rotate_left
    · rw [hm0_]; exact (Ow.up ho10 (hS_.1 _ (.head _)))
    all_goals (first | rfl | (cases h1_ : d0.1 <;> cases h2_ : d0.2.1 <;> simp_all))
  · -- F
    refine VO.gN ?_
    refine VO.gN ?_
    refine VO.gN ?_
    refine VO.gN ?_
    refine VO.gN ?_
    refine VO.y rfl (.pF rfl rfl) ?_
    refine VO.as ?_
    refine VO.k2 0 2 ?_
    refine VC.ret ?_
    refine ⟨_, _, res_run (rs := [.tmp 2]) rfl (.tmp rfl .nil), fun W_ hI => out_of (l := [m1]) hI [1] rfl rfl (mle_refl _) (fun hS_ => ?_)⟩
    dsimp only [packV]
    have hm0_ : (d0 : DdiskDisk) = d0 := by first | rfl | (simp [*]; done)
    refine ⟨?_, ?_⟩
    rotate_left
    · rw [hm0_]; exact (Ow.up w1_0 (hS_.1 _ (.head _)))
    all_goals (first | rfl | (cases h1_ : d0.1 <;> cases h2_ : d0.2.1 <;> simp_all))
theorem fin0_dStart_ok {P : Prop} (h : P := by first | (rw [start_bad1 (by assumption)] <;> rfl) | (rw [start_bad2 (by assumption) (.inl (by simpa using ‹_›))] <;> rfl) | (rw [start_bad2 (by assumption) (.inr (.inl (by assumption)))] <;> rfl) | (rw [start_bad2 (by assumption) (.inr (.inr (by assumption)))] <;> rfl) | (rw [start_go (by assumption) (by simpa using ‹_›) (by assumption) (by assumption), torn_nil (by omega)] <;> rfl) | (rw [start_go (by assumption) (by simpa using ‹_›) (by assumption) (by assumption), torn_no (by assumption) (by assumption)] <;> rfl) | (rw [start_go (by assumption) (by simpa using ‹_›) (by assumption) (by assumption), torn_yes (by assumption) (by assumption), stepQ, setQ0 ‹_ = (0 : Int)›, getF0 ‹_ = (0 : Int)›] <;> rfl) | (rw [start_go (by assumption) (by simpa using ‹_›) (by assumption) (by assumption), torn_yes (by assumption) (by assumption), stepQ, setQ1 ‹_ = (1 : Int)›, getF1 ‹_ = (1 : Int)›] <;> rfl) | (rw [start_go (by assumption) (by simpa using ‹_›) (by assumption) (by assumption), torn_yes (by assumption) (by assumption), stepQ, setQ2 ‹_ = (2 : Int)›, getF2 ‹_ = (2 : Int)›] <;> rfl) | (rw [start_go (by assumption) (by simpa using ‹_›) (by assumption) (by assumption), torn_yes (by assumption) (by assumption), stepQ, setQ3 ‹_ = (3 : Int)›, getF3 ‹_ = (3 : Int)›] <;> rfl)) : P := h
theorem fin2_dStart_ok {P : Prop} (h : P := by first | omega | (simp only [List.length_append, List.length_nil, List.length_cons, List.length_take, List.length_drop] at *; omega) | (have h_ := start_good (by assumption) ‹_[0]? = some _›; simp only [inF] at h_; omega)) : P := h
set_option maxHeartbeats 4000000 in
theorem dStart_ok (W : World) {m0 : Mem} (hm : mle (m0) (wm W)) {g0 : Nat} {d0 : DdiskDisk} (h0 : Ow (.ptr TdiskDisk) m0 [.pointer (some ⟨g0, 0, none⟩)] (g0, d0)) (d1 : Int) (h1 : inK .i64 d1) (d2 : Int) (h2 : inK .i64 d2) (e0 : okD d0) (e1 : wD d0 ≤ 1000000000000) : CallR Try.prog 34 [.pointer (some ⟨g0, 0, none⟩), .int .i64 d1, .int .i64 d2] W (m0) (fun v m' => v = .int .i64 ((dStart d0 d1 d2).2) ∧ Ow (.ptr TdiskDisk) m' [.pointer (some ⟨g0, 0, none⟩)] (g0, (dStart d0 d1 d2).1)) := by
  have h1' := h1; simp only [inK] at h1'
  have h2' := h2; simp only [inK] at h2'
  refine CallR.ofB (n := 93) hm Try.func34 rfl rfl rfl ?_
  refine VC.rs ?_
  refine VO.as ?_
  refine VO.k4 0 1 2 6 ?_
  refine VC.seq ?_
  refine VC.block ?_
  refine VC.rs ?_
  refine VO.mv ?_
  refine VO.call 1 rfl fnOk69 rfl rfl (fun W hW => dNone_ok W (hW.at (i := 1) rfl) h0) (fun v1 m1 hv1 => ?_)
  obtain ⟨rfl, w1_0⟩ := hv1
  refine VO.as ?_
  refine VO.k5 0 1 2 6 8 ?_
  refine VC.cond rfl (fun hc2 => ?_) (fun hc2 => ?_)
  · -- T
    refine VC.rs ?_
    refine VO.as ?_
    refine VO.kp [1, 0] [(1, m1), (0, mout (wm W) (m0))] ?_
    refine VO.k5 0 1 2 6 8 ?_
    refine VC.ret ?_
    refine outBR ?_
    refine outR ?_
    refine ⟨_, _, res_run (rs := [.tmp 6]) rfl (.tmp rfl .nil), fun W_ hI => out_of (l := [m1]) hI [1] rfl rfl (mle_refl _) (fun hS_ => ?_)⟩
    dsimp only [packV]
    have hm0_ : ((dStart d0 d1 d2).1 : DdiskDisk) = d0 := by first | rfl | (exact fin0_dStart_ok)
    refine ⟨?_, ?_⟩
    rotate_left
    · rw [hm0_]; exact (Ow.up w1_0 (hS_.1 _ (.head _)))
    all_goals (first | rfl | (exact fin0_dStart_ok))
  · -- F
    refine VC.rs ?_
    refine VO.mv ?_
    refine VO.y rfl (.nilp rfl) ?_
    refine VO.y rfl (.fa rfl tst62 rfl) ?_
    obtain ⟨q3_E, q3_A5, q3_c5, q3_A6, q3_c6, q3_A7, q3_c7, q3_A8, q3_c8, q3_A9, q3_c9, q3_n5, q3_n6, q3_n7, q3_n8, q3_n9, _, q3_S, q3_3, q3_4, q3_5, q3_6, q3_7, q3_8, q3_9⟩ := openP_diskDisk (x0 := d0.1) (x1 := d0.2.1) (x2 := d0.2.2.1) (x3 := d0.2.2.2.1) (x4 := d0.2.2.2.2.1) (x5 := d0.2.2.2.2.2.1.1) (x6 := d0.2.2.2.2.2.1.2.1) (x7 := d0.2.2.2.2.2.1.2.2.1) (x8 := d0.2.2.2.2.2.1.2.2.2) (x9 := d0.2.2.2.2.2.2) w1_0
    simp only [inK] at q3_3
    simp only [inK] at q3_4
    have q3_r5 := q3_5.rm
    have q3_r6 := q3_6.rm
    have q3_r7 := q3_7.rm
    have q3_r8 := q3_8.rm
    have q3_r9 := q3_9.rm
    refine VO.inv _ (fun _ h => h.parts (i := 1) rfl q3_S [109, 104, 105, 106, 107, 108]) ?_
    refine VO.y rfl (.ld1 109 rfl tk4 rfl (cellsAt_one rfl rfl)) ?_
    refine VO.y rfl (.not rfl) ?_
    refine VO.mv ?_
    refine VO.decBN (t := 17) rfl (fun hc10 => ?_) (fun hc10 => ?_)
    · -- FT
      refine VO.gN ?_
      refine VO.gN ?_
      refine VO.y rfl (.pT rfl rfl) ?_
      refine VO.mv ?_
      refine VO.gN ?_
      refine VO.gN ?_
      refine VO.y rfl (.pT rfl rfl) ?_
      refine VO.as ?_
      refine VO.clsP 111 [109, 104, 105, 106, 107, 108] rfl (fun hg11 => (show Ow (.ptr TdiskDisk) _ _ (_, d0) from (mkP_diskDisk d0.1 d0.2.1 d0.2.2.1 d0.2.2.2.1 d0.2.2.2.2.1 d0.2.2.2.2.2.1.1 d0.2.2.2.2.2.1.2.1 d0.2.2.2.2.2.1.2.2.1 d0.2.2.2.2.2.1.2.2.2 d0.2.2.2.2.2.2 hg11 (by simp only [inK]; (exact fin2_dStart_ok)) (by simp only [inK]; (exact fin2_dStart_ok)) (OwnL.ow (Ow.ownl q3_5 rfl mnil) rfl) (OwnL.ow (Ow.ownl q3_6 rfl mnil) rfl) (OwnL.ow (Ow.ownl q3_7 rfl mnil) rfl) (OwnL.ow (Ow.ownl q3_8 rfl mnil) rfl) q3_9))) (fun mc11 ho11 => ?_)
      refine VO.kp [111, 0] [(111, mc11), (0, mout (wm W) (m0))] ?_
      refine VO.k6 0 1 2 6 8 11 ?_
      refine VC.condT rfl ?_
      refine VC.rs ?_
      refine VO.as ?_
      refine VO.k6 0 1 2 6 8 11 ?_
      refine VC.ret ?_
      refine outBR ?_
      refine outR ?_
      refine ⟨_, _, res_run (rs := [.tmp 6]) rfl (.tmp rfl .nil), fun W_ hI => out_of (l := [mc11]) hI [111] rfl rfl (mle_refl _) (fun hS_ => ?_)⟩
      dsimp only [packV]
      have hm0_ : ((dStart d0 d1 d2).1 : DdiskDisk) = d0 := by first | rfl | (exact fin0_dStart_ok)
      refine ⟨?_, ?_⟩
      rotate_left
      · rw [hm0_]; exact (Ow.up ho11 (hS_.1 _ (.head _)))
      all_goals (first | rfl | (exact fin0_dStart_ok))
    · -- FF
      refine VO.gy rfl ⟨_, rfl, rfl⟩ (.mv rfl) ?_
      refine VO.gy rfl ⟨_, rfl, rfl⟩ (.lss rfl rfl) ?_
      refine VO.y rfl (.pF rfl rfl) ?_
      refine VO.mv ?_
      refine VO.dec (t := 21) rfl (fun hc12 => ?_) (fun hc12 => ?_)
      · -- FFT
        refine VO.gN ?_
        refine VO.gN ?_
        refine VO.y rfl (.pT rfl rfl) ?_
        refine VO.as ?_
        refine VO.clsP 113 [109, 104, 105, 106, 107, 108] rfl (fun hg13 => (show Ow (.ptr TdiskDisk) _ _ (_, d0) from (mkP_diskDisk d0.1 d0.2.1 d0.2.2.1 d0.2.2.2.1 d0.2.2.2.2.1 d0.2.2.2.2.2.1.1 d0.2.2.2.2.2.1.2.1 d0.2.2.2.2.2.1.2.2.1 d0.2.2.2.2.2.1.2.2.2 d0.2.2.2.2.2.2 hg13 (by simp only [inK]; (exact fin2_dStart_ok)) (by simp only [inK]; (exact fin2_dStart_ok)) (OwnL.ow (Ow.ownl q3_5 rfl mnil) rfl) (OwnL.ow (Ow.ownl q3_6 rfl mnil) rfl) (OwnL.ow (Ow.ownl q3_7 rfl mnil) rfl) (OwnL.ow (Ow.ownl q3_8 rfl mnil) rfl) q3_9))) (fun mc13 ho13 => ?_)
        refine VO.kp [113, 0] [(113, mc13), (0, mout (wm W) (m0))] ?_
        refine VO.k6 0 1 2 6 8 11 ?_
        refine VC.condT rfl ?_
        refine VC.rs ?_
        refine VO.as ?_
        refine VO.k6 0 1 2 6 8 11 ?_
        refine VC.ret ?_
        refine outBR ?_
        refine outR ?_
        refine ⟨_, _, res_run (rs := [.tmp 6]) rfl (.tmp rfl .nil), fun W_ hI => out_of (l := [mc13]) hI [113] rfl rfl (mle_refl _) (fun hS_ => ?_)⟩
        dsimp only [packV]
        have hm0_ : ((dStart d0 d1 d2).1 : DdiskDisk) = d0 := by first | rfl | (exact fin0_dStart_ok)
        refine ⟨?_, ?_⟩
        rotate_left
        · rw [hm0_]; exact (Ow.up ho13 (hS_.1 _ (.head _)))
        all_goals (first | rfl | (exact fin0_dStart_ok))
      · -- FFF
        refine VO.gy rfl ⟨_, rfl, rfl⟩ (.mv rfl) ?_
        refine VO.gy rfl ⟨_, rfl, rfl⟩ (.lss rfl rfl) ?_
        refine VO.y rfl (.pF rfl rfl) ?_
        refine VO.as ?_
        refine VO.clsP 114 [109, 104, 105, 106, 107, 108] rfl (fun hg14 => (show Ow (.ptr TdiskDisk) _ _ (_, d0) from (mkP_diskDisk d0.1 d0.2.1 d0.2.2.1 d0.2.2.2.1 d0.2.2.2.2.1 d0.2.2.2.2.2.1.1 d0.2.2.2.2.2.1.2.1 d0.2.2.2.2.2.1.2.2.1 d0.2.2.2.2.2.1.2.2.2 d0.2.2.2.2.2.2 hg14 (by simp only [inK]; (exact fin2_dStart_ok)) (by simp only [inK]; (exact fin2_dStart_ok)) (OwnL.ow (Ow.ownl q3_5 rfl mnil) rfl) (OwnL.ow (Ow.ownl q3_6 rfl mnil) rfl) (OwnL.ow (Ow.ownl q3_7 rfl mnil) rfl) (OwnL.ow (Ow.ownl q3_8 rfl mnil) rfl) q3_9))) (fun mc14 ho14 => ?_)
        refine VO.kp [114, 0] [(114, mc14), (0, mout (wm W) (m0))] ?_
        refine VO.k6 0 1 2 6 8 11 ?_
        refine VC.cond rfl (fun hc15 => ?_) (fun hc15 => ?_)
        · -- FFFT
          refine VC.rs ?_
          refine VO.as ?_
          refine VO.k6 0 1 2 6 8 11 ?_
          refine VC.ret ?_
          refine outBR ?_
          refine outR ?_
          refine ⟨_, _, res_run (rs := [.tmp 6]) rfl (.tmp rfl .nil), fun W_ hI => out_of (l := [mc14]) hI [114] rfl rfl (mle_refl _) (fun hS_ => ?_)⟩
          dsimp only [packV]
          have hm0_ : ((dStart d0 d1 d2).1 : DdiskDisk) = d0 := by first | rfl | (exact fin0_dStart_ok)
          refine ⟨?_, ?_⟩
          rotate_left
          · rw [hm0_]; exact (Ow.up ho14 (hS_.1 _ (.head _)))
          all_goals (first | rfl | (exact fin0_dStart_ok))
        · -- FFFF
          refine VC.skip ?_
          refine outBN ?_
          refine outN ?_
          refine VC.rs ?_
          refine VO.mv ?_
          refine VO.mv ?_
          refine VO.mv ?_
          refine VO.y rfl (.nilp rfl) ?_
          refine VO.y rfl (.fa rfl tst62 rfl) ?_
          obtain ⟨q16_E, q16_A5, q16_c5, q16_A6, q16_c6, q16_A7, q16_c7, q16_A8, q16_c8, q16_A9, q16_c9, q16_n5, q16_n6, q16_n7, q16_n8, q16_n9, _, q16_S, q16_3, q16_4, q16_5, q16_6, q16_7, q16_8, q16_9⟩ := openP_diskDisk (x0 := d0.1) (x1 := d0.2.1) (x2 := d0.2.2.1) (x3 := d0.2.2.2.1) (x4 := d0.2.2.2.2.1) (x5 := d0.2.2.2.2.2.1.1) (x6 := d0.2.2.2.2.2.1.2.1) (x7 := d0.2.2.2.2.2.1.2.2.1) (x8 := d0.2.2.2.2.2.1.2.2.2) (x9 := d0.2.2.2.2.2.2) ho14
          simp only [inK] at q16_3
          simp only [inK] at q16_4
          have q16_r5 := q16_5.rm
          have q16_r6 := q16_6.rm
          have q16_r7 := q16_7.rm
          have q16_r8 := q16_8.rm
          have q16_r9 := q16_9.rm
          refine VO.inv _ (fun _ h => h.parts (i := 114) rfl q16_S [122, 117, 118, 119, 120, 121]) ?_
          refine VO.y rfl (.ld1 122 rfl tk60 rfl (cellsAt_one rfl rfl)) ?_
          refine VO.y rfl (.lenS rfl tsl60) ?_
          refine VO.y rfl (.minM rfl rfl) ?_
          refine VO.clsP 124 [122, 117, 118, 119, 120, 121] rfl (fun hg24 => (show Ow (.ptr TdiskDisk) _ _ (_, d0) from (mkP_diskDisk d0.1 d0.2.1 d0.2.2.1 d0.2.2.2.1 d0.2.2.2.2.1 d0.2.2.2.2.2.1.1 d0.2.2.2.2.2.1.2.1 d0.2.2.2.2.2.1.2.2.1 d0.2.2.2.2.2.1.2.2.2 d0.2.2.2.2.2.2 hg24 (by simp only [inK]; (exact fin2_dStart_ok)) (by simp only [inK]; (exact fin2_dStart_ok)) (OwnL.ow (Ow.ownl q16_5 rfl mnil) rfl) (OwnL.ow (Ow.ownl q16_6 rfl mnil) rfl) (OwnL.ow (Ow.ownl q16_7 rfl mnil) rfl) (OwnL.ow (Ow.ownl q16_8 rfl mnil) rfl) q16_9))) (fun mc24 ho24 => ?_)
          refine VO.call 124 rfl fnOk70 rfl rfl (fun W hW => dSettle_ok W (hW.at (i := 124) rfl) ho24 (min d1 ((d0.2.2.2.2.2.2.length : Nat) : Int)) (by simp only [inK]; (exact fin2_dStart_ok)) (by assumption) (by exact fin2_dStart_ok) (by exact fin2_dStart_ok)) (fun v23 m23 hv23 => ?_)
          obtain ⟨rfl, w23_0⟩ := hv23
          have hfa25 := (settle_ok (min d1 ((d0.2.2.2.2.2.2.length : Nat) : Int)).toNat (show okD d0 by assumption))
          have hfa26 := (settle_w d0 (min d1 ((d0.2.2.2.2.2.2.length : Nat) : Int)).toNat)
          refine VO.k6 0 1 2 6 8 11 ?_
          refine VC.seq ?_
          refine VC.rs ?_
          refine VO.mv ?_
          refine VO.y rfl (.nilp rfl) ?_
          refine VO.y rfl (.fa rfl tst62 rfl) ?_
          obtain ⟨q27_E, q27_A5, q27_c5, q27_A6, q27_c6, q27_A7, q27_c7, q27_A8, q27_c8, q27_A9, q27_c9, q27_n5, q27_n6, q27_n7, q27_n8, q27_n9, _, q27_S, q27_3, q27_4, q27_5, q27_6, q27_7, q27_8, q27_9⟩ := openP_diskDisk (x0 := (settleD d0 (min d1 ((d0.2.2.2.2.2.2.length : Nat) : Int)).toNat).1) (x1 := (settleD d0 (min d1 ((d0.2.2.2.2.2.2.length : Nat) : Int)).toNat).2.1) (x2 := (settleD d0 (min d1 ((d0.2.2.2.2.2.2.length : Nat) : Int)).toNat).2.2.1) (x3 := (settleD d0 (min d1 ((d0.2.2.2.2.2.2.length : Nat) : Int)).toNat).2.2.2.1) (x4 := (settleD d0 (min d1 ((d0.2.2.2.2.2.2.length : Nat) : Int)).toNat).2.2.2.2.1) (x5 := ((settleD d0 (min d1 ((d0.2.2.2.2.2.2.length : Nat) : Int)).toNat).2.2.2.2.2.1).1) (x6 := ((settleD d0 (min d1 ((d0.2.2.2.2.2.2.length : Nat) : Int)).toNat).2.2.2.2.2.1).2.1) (x7 := ((settleD d0 (min d1 ((d0.2.2.2.2.2.2.length : Nat) : Int)).toNat).2.2.2.2.2.1).2.2.1) (x8 := ((settleD d0 (min d1 ((d0.2.2.2.2.2.2.length : Nat) : Int)).toNat).2.2.2.2.2.1).2.2.2) (x9 := (settleD d0 (min d1 ((d0.2.2.2.2.2.2.length : Nat) : Int)).toNat).2.2.2.2.2.2) w23_0
          simp only [inK] at q27_3
          simp only [inK] at q27_4
          have q27_r5 := q27_5.rm
          have q27_r6 := q27_6.rm
          have q27_r7 := q27_7.rm
          have q27_r8 := q27_8.rm
          have q27_r9 := q27_9.rm
          refine VO.inv _ (fun _ h => h.parts (i := 124) rfl q27_S [133, 128, 129, 130, 131, 132]) ?_
          refine VO.y rfl (.ld1 133 rfl tk60 rfl (cellsAt_one rfl rfl)) ?_
          refine VO.y rfl (.lenS rfl tsl60) ?_
          refine VO.y rfl (.gtr rfl rfl) ?_
          refine VO.mv ?_
          refine VO.dec (t := 40) rfl (fun hc34 => ?_) (fun hc34 => ?_)
          · -- FFFFT
            refine VO.gy rfl ⟨_, rfl, rfl⟩ (.mv rfl) ?_
            refine VO.gy rfl ⟨_, rfl, rfl⟩ (.nilp rfl) ?_
            refine VO.gy rfl ⟨_, rfl, rfl⟩ (.fa rfl tst62 rfl) ?_
            refine VO.gy rfl ⟨_, rfl, rfl⟩ (.ld1 133 rfl tk60 rfl (cellsAt_one rfl rfl)) ?_
            obtain ⟨x35, hx35⟩ : ∃ z_, ((settleD d0 (min d1 ((d0.2.2.2.2.2.2.length : Nat) : Int)).toNat).2.2.2.2.2.2)[0]? = some z_ := ⟨_, List.getElem?_eq_getElem (by exact fin2_dStart_ok)⟩
            obtain ⟨gg35, oo35, ec35, ea35, hce35, hre35⟩ := (Ow.rd q27_9 (mle_refl _)).elem hx35
            cases ea35
            obtain ⟨q35_A2, q35_c2, rfl, q35_0, q35_1, q35_2, q35_3⟩ := open_diskstep (x0 := x35.1) (x1 := x35.2.1) (x2 := x35.2.2.1) (x3 := x35.2.2.2) hre35
            simp only [inK] at q35_0
            simp only [inK] at q35_1
            have q35_r2 := Rd.room q35_2
            simp only [inK] at q35_3
            refine VO.gy rfl ⟨_, rfl, rfl⟩ (.ixI 0 rfl rfl tsl60 rfl (by exact fin2_dStart_ok)) ?_
            refine VO.gy rfl ⟨_, rfl, rfl⟩ (.fa rfl tst107 rfl) ?_
            refine VO.gy rfl ⟨_, rfl, rfl⟩ (.ld1 132 rfl tk3 rfl (hce35.at1 (j := 0) rfl)) ?_
            refine VO.gy rfl ⟨_, rfl, rfl⟩ (.eql rfl rfl) ?_
            refine VO.y rfl (.pT rfl rfl) ?_
            refine VO.clsP 136 [133, 128, 129, 130, 131, 132] rfl (fun hg36 => (show Ow (.ptr TdiskDisk) _ _ (_, (settleD d0 (min d1 ((d0.2.2.2.2.2.2.length : Nat) : Int)).toNat)) from (mkP_diskDisk ((settleD d0 (min d1 ((d0.2.2.2.2.2.2.length : Nat) : Int)).toNat).1) ((settleD d0 (min d1 ((d0.2.2.2.2.2.2.length : Nat) : Int)).toNat).2.1) ((settleD d0 (min d1 ((d0.2.2.2.2.2.2.length : Nat) : Int)).toNat).2.2.1) ((settleD d0 (min d1 ((d0.2.2.2.2.2.2.length : Nat) : Int)).toNat).2.2.2.1) ((settleD d0 (min d1 ((d0.2.2.2.2.2.2.length : Nat) : Int)).toNat).2.2.2.2.1) (((settleD d0 (min d1 ((d0.2.2.2.2.2.2.length : Nat) : Int)).toNat).2.2.2.2.2.1).1) (((settleD d0 (min d1 ((d0.2.2.2.2.2.2.length : Nat) : Int)).toNat).2.2.2.2.2.1).2.1) (((settleD d0 (min d1 ((d0.2.2.2.2.2.2.length : Nat) : Int)).toNat).2.2.2.2.2.1).2.2.1) (((settleD d0 (min d1 ((d0.2.2.2.2.2.2.length : Nat) : Int)).toNat).2.2.2.2.2.1).2.2.2) ((settleD d0 (min d1 ((d0.2.2.2.2.2.2.length : Nat) : Int)).toNat).2.2.2.2.2.2) hg36 (by simp only [inK]; (exact fin2_dStart_ok)) (by simp only [inK]; (exact fin2_dStart_ok)) (OwnL.ow (Ow.ownl q27_5 rfl mnil) rfl) (OwnL.ow (Ow.ownl q27_6 rfl mnil) rfl) (OwnL.ow (Ow.ownl q27_7 rfl mnil) rfl) (OwnL.ow (Ow.ownl q27_8 rfl mnil) rfl) q27_9))) (fun mc36 ho36 => ?_)
            refine VO.k7 0 1 2 6 8 11 49 ?_
            refine VC.cond rfl (fun hc37 => ?_) (fun hc37 => ?_)
            · -- FFFFTT
              refine VC.rs ?_
              refine VO.mv ?_
              refine VO.y rfl (.nilp rfl) ?_
              refine VO.y rfl (.fa rfl tst62 rfl) ?_
              obtain ⟨q38_E, q38_A5, q38_c5, q38_A6, q38_c6, q38_A7, q38_c7, q38_A8, q38_c8, q38_A9, q38_c9, q38_n5, q38_n6, q38_n7, q38_n8, q38_n9, _, q38_S, q38_3, q38_4, q38_5, q38_6, q38_7, q38_8, q38_9⟩ := openP_diskDisk (x0 := (settleD d0 (min d1 ((d0.2.2.2.2.2.2.length : Nat) : Int)).toNat).1) (x1 := (settleD d0 (min d1 ((d0.2.2.2.2.2.2.length : Nat) : Int)).toNat).2.1) (x2 := (settleD d0 (min d1 ((d0.2.2.2.2.2.2.length : Nat) : Int)).toNat).2.2.1) (x3 := (settleD d0 (min d1 ((d0.2.2.2.2.2.2.length : Nat) : Int)).toNat).2.2.2.1) (x4 := (settleD d0 (min d1 ((d0.2.2.2.2.2.2.length : Nat) : Int)).toNat).2.2.2.2.1) (x5 := ((settleD d0 (min d1 ((d0.2.2.2.2.2.2.length : Nat) : Int)).toNat).2.2.2.2.2.1).1) (x6 := ((settleD d0 (min d1 ((d0.2.2.2.2.2.2.length : Nat) : Int)).toNat).2.2.2.2.2.1).2.1) (x7 := ((settleD d0 (min d1 ((d0.2.2.2.2.2.2.length : Nat) : Int)).toNat).2.2.2.2.2.1).2.2.1) (x8 := ((settleD d0 (min d1 ((d0.2.2.2.2.2.2.length : Nat) : Int)).toNat).2.2.2.2.2.1).2.2.2) (x9 := (settleD d0 (min d1 ((d0.2.2.2.2.2.2.length : Nat) : Int)).toNat).2.2.2.2.2.2) ho36
              simp only [inK] at q38_3
              simp only [inK] at q38_4
              have q38_r5 := q38_5.rm
              have q38_r6 := q38_6.rm
              have q38_r7 := q38_7.rm
              have q38_r8 := q38_8.rm
              have q38_r9 := q38_9.rm
              refine VO.inv _ (fun _ h => h.parts (i := 136) rfl q38_S [144, 139, 140, 141, 142, 143]) ?_
              refine VO.y rfl (.ld1 144 rfl tk60 rfl (cellsAt_one rfl rfl)) ?_
              obtain ⟨x45, hx45⟩ : ∃ z_, ((settleD d0 (min d1 ((d0.2.2.2.2.2.2.length : Nat) : Int)).toNat).2.2.2.2.2.2)[0]? = some z_ := ⟨_, List.getElem?_eq_getElem (by exact fin2_dStart_ok)⟩
              obtain ⟨gg45, oo45, ec45, ea45, hce45, hre45⟩ := (Ow.rd q38_9 (mle_refl _)).elem hx45
              cases ea45
              obtain ⟨q45_A2, q45_c2, rfl, q45_0, q45_1, q45_2, q45_3⟩ := open_diskstep (x0 := x45.1) (x1 := x45.2.1) (x2 := x45.2.2.1) (x3 := x45.2.2.2) hre45
              simp only [inK] at q45_0
              simp only [inK] at q45_1
              have q45_r2 := Rd.room q45_2
              simp only [inK] at q45_3
              refine VO.y rfl (.ixI 0 rfl rfl tsl60 rfl (by exact fin2_dStart_ok)) ?_
              refine VO.y rfl (.ldA 143 rfl tk107 rfl hce45) ?_
              refine VO.alloc 147 rfl tz107 (fun g46 => ?_)
              refine VO.store (k := 4) (c' := [Value.int .i64 (x45.1), Value.int .i64 (x45.2.1), Value.slice q45_A2 (x45.2.2.1.length) (q45_c2), Value.int .i64 (x45.2.2.2)]) 147 rfl rfl (.inl tk107) rfl rfl rfl rfl rfl ?_
              refine VO.kp [147, 144, 139, 140, 141, 142, 143, 0] [(147, mone g46 (.cells [Value.int .i64 (x45.1), Value.int .i64 (x45.2.1), Value.slice q45_A2 (x45.2.2.1.length) (q45_c2), Value.int .i64 (x45.2.2.2)].toArray 107 (0, 0))), (144, mone g0 (.cells [Value.bool ((settleD d0 (min d1 ((d0.2.2.2.2.2.2.length : Nat) : Int)).toNat).1), Value.bool ((settleD d0 (min d1 ((d0.2.2.2.2.2.2.length : Nat) : Int)).toNat).2.1), Value.bool ((settleD d0 (min d1 ((d0.2.2.2.2.2.2.length : Nat) : Int)).toNat).2.2.1), Value.int .i64 ((settleD d0 (min d1 ((d0.2.2.2.2.2.2.length : Nat) : Int)).toNat).2.2.2.1), Value.int .i64 ((settleD d0 (min d1 ((d0.2.2.2.2.2.2.length : Nat) : Int)).toNat).2.2.2.2.1), Value.slice q38_A5 ((((settleD d0 (min d1 ((d0.2.2.2.2.2.2.length : Nat) : Int)).toNat).2.2.2.2.2.1).1).length) (q38_c5), Value.slice q38_A6 ((((settleD d0 (min d1 ((d0.2.2.2.2.2.2.length : Nat) : Int)).toNat).2.2.2.2.2.1).2.1).length) (q38_c6), Value.slice q38_A7 ((((settleD d0 (min d1 ((d0.2.2.2.2.2.2.length : Nat) : Int)).toNat).2.2.2.2.2.1).2.2.1).length) (q38_c7), Value.slice q38_A8 ((((settleD d0 (min d1 ((d0.2.2.2.2.2.2.length : Nat) : Int)).toNat).2.2.2.2.2.1).2.2.2).length) (q38_c8), Value.slice (some ⟨gg45, oo45, none⟩) (((settleD d0 (min d1 ((d0.2.2.2.2.2.2.length : Nat) : Int)).toNat).2.2.2.2.2.2).length) (q38_c9)].toArray q38_E (0, 0))), (139, q38_n5), (140, q38_n6), (141, q38_n7), (142, q38_n8), (143, q38_n9), (0, mout (wm W) (m0))] ?_
              refine VO.k8 0 1 2 6 7 8 11 49 ?_
              refine VC.rs ?_
              have hxe : x45 = x35 := Option.some.inj (hx45.symm.trans hx35)
              subst hxe
              refine VO.y rfl (.fa rfl tst107 rfl) ?_
              refine VO.y rfl (.ld1 147 rfl tk38 rfl (cellsAt_one rfl rfl)) ?_
              refine VO.mv ?_
              refine VO.y rfl (.fa rfl tst107 rfl) ?_
              refine VO.y rfl (.ld1 147 rfl tk38 rfl (cellsAt_one rfl rfl)) ?_
              refine VO.y rfl (.lenS rfl tsl38) ?_
              refine VO.y rfl (.sub rfl rfl rfl ⟨by exact fin2_dStart_ok, by exact fin2_dStart_ok⟩) ?_
              refine VO.y rfl (.minM rfl rfl) ?_
              have hs48 := q45_2.pre (j := ((min d2 (((x45.2.2.1.length : Nat) : Int) - 1)).toNat)) (by exact fin2_dStart_ok)
              refine VO.y rfl (.slHI ((min d2 (((x45.2.2.1.length : Nat) : Int) - 1)).toNat) rfl rfl tsl38 (by exact fin2_dStart_ok) (by exact fin2_dStart_ok)) ?_
              refine VO.y rfl (.fa rfl tst107 rfl) ?_
              refine VO.store (k := 1) (c' := [Value.int .i64 (x45.1), Value.int .i64 (x45.2.1), Value.slice q45_A2 ((min d2 (((x45.2.2.1.length : Nat) : Int) - 1)).toNat) (q45_c2), Value.int .i64 (x45.2.2.2)]) 147 rfl rfl (.inr ⟨tk38, rfl⟩) rfl rfl rfl rfl rfl ?_
              refine VO.k8 0 1 2 6 7 8 11 49 ?_
              refine VC.regD _ 14 [(0, true), (1, true), (2, true), (3, true), (4, true), (5, true), (6, true), (7, true), (8, true), (9, true), (10, true), (12, true), (13, true), (11, false)] follows (by kernel_rfl) (fun _ h => h.sub [147, 144, 143, 0]) ?_
              refine VD.y rfl rfl (.inl rfl) (.mv rfl) ?_
              refine VD.y rfl rfl (.inl rfl) (.fa rfl tst107 rfl) ?_
              refine VD.y rfl rfl (.inl rfl) (.ld1 147 rfl tk3 rfl (cellsAt_one rfl rfl)) ?_
              refine VD.y rfl rfl (.inl rfl) (.mv rfl) ?_
              refine VD.y rfl rfl (.inl rfl) (.fa rfl tst107 rfl) ?_
              refine VD.y rfl rfl (.inl rfl) (.ld1 147 rfl tk3 rfl (cellsAt_one rfl rfl)) ?_
              refine VD.y rfl rfl (.inl rfl) (.nilp rfl) ?_
              refine VD.y rfl rfl (.inl rfl) (.fa rfl tst62 rfl) ?_
              rcases (show x45.2.1 = (0 : Int) ∨ x45.2.1 = (1 : Int) ∨ x45.2.1 = (2 : Int) ∨ x45.2.1 = (3 : Int) from by exact fin2_dStart_ok) with hi49 | hi49 | hi49 | hi49
              · -- FFFFTT0
                refine VD.y rfl rfl (.inl rfl) (.ixa (i := 0) (o := 5) rfl rfl tar59 hi49 rfl rfl) ?_
                refine VD.y rfl rfl (.inl rfl) (.ld1 144 rfl tk38 rfl (cellsAt_one rfl rfl)) ?_
                refine VD.y rfl rfl (.inl rfl) (.ldA 147 rfl tk107 rfl (cellsAt_one rfl rfl)) ?_
                refine VD.y rfl rfl (.inl rfl) (.nilp rfl) ?_
                refine VD.y rfl rfl (.inl rfl) (.fa rfl tst62 rfl) ?_
                refine VD.call 139 rfl rfl (.inl rfl) fnOk71 rfl rfl (fun _ _ h => h.sub [147, 144, 143, 0]) (fun W hW => dDone_ok W (hW.at (i := 139) rfl) (OwnL.ow (Ow.ownl q38_5 rfl mnil) rfl) (mk_diskstep (m := mout (wm W) (q38_n5)) x45.1 x45.2.1 ((x45.2.2.1).take ((min d2 (((x45.2.2.1.length : Nat) : Int) - 1)).toNat)) x45.2.2.2 (by simp only [inK]; (exact fin2_dStart_ok)) (by simp only [inK]; (exact fin2_dStart_ok)) (Rd.mono hs48 (hW.out (i := 139) (j := 143) rfl rfl)) (by simp only [inK]; (exact fin2_dStart_ok))) (by intro h_; omega) (by (have h_ := (start_good (by assumption) ‹_[0]? = some _›).2.2; first | (rw [getF0 ‹_ = (0 : Int)›] at h_; simp only [List.length_take]; omega) | (rw [getF1 ‹_ = (1 : Int)›] at h_; simp only [List.length_take]; omega) | (rw [getF2 ‹_ = (2 : Int)›] at h_; simp only [List.length_take]; omega) | (rw [getF3 ‹_ = (3 : Int)›] at h_; simp only [List.length_take]; omega)))) (fun v50 m50 hv50 => ?_)
                try dsimp only at hv50
                obtain ⟨s50_0, rfl, f50_0⟩ := hv50
                obtain ⟨A50_0, c50_0, eq50_0, l50_0, k50_0⟩ := f50_0.slice
                subst eq50_0
                simp only [maxLen] at k50_0
                refine VD.nil rfl ?_ rfl
                refine VO.y rfl (.ixa (i := 0) (o := 5) rfl rfl tar59 hi49 rfl rfl) ?_
                refine VO.store (k := 1) 144 rfl rfl (.inr ⟨tk38, rfl⟩) rfl rfl rfl rfl rfl ?_
                refine VO.k8 0 1 2 6 7 8 11 49 ?_
                refine outN ?_
                refine VC.rs ?_
                refine VO.mv ?_
                refine VO.mv ?_
                refine VO.mv ?_
                refine VO.mv ?_
                refine VO.y rfl (.nilp rfl) ?_
                refine VO.y rfl (.fa rfl tst62 rfl) ?_
                refine VO.store (k := 1) 144 rfl rfl (.inr ⟨tk60, rfl⟩) rfl rfl rfl rfl rfl ?_
                refine VO.y rfl (.nilp rfl) ?_
                refine VO.y rfl (.fa rfl tst62 rfl) ?_
                refine VO.store (k := 1) 144 rfl rfl (.inr ⟨tk4, rfl⟩) rfl rfl rfl rfl rfl ?_
                refine VO.y rfl (.nilp rfl) ?_
                refine VO.y rfl (.fa rfl tst62 rfl) ?_
                refine VO.store (k := 1) 144 rfl rfl (.inr ⟨tk4, rfl⟩) rfl rfl rfl rfl rfl ?_
                refine VO.y rfl (.nilp rfl) ?_
                refine VO.y rfl (.fa rfl tst62 rfl) ?_
                refine VO.store (k := 1) 144 rfl rfl (.inr ⟨tk3, rfl⟩) rfl rfl rfl rfl rfl ?_
                refine VO.clsP 151 [144, 139, 140, 141, 142] rfl (fun hg51 => (mkP_diskDisk ((settleD d0 (min d1 ((d0.2.2.2.2.2.2.length : Nat) : Int)).toNat).1) false false 0 ((settleD d0 (min d1 ((d0.2.2.2.2.2.2.length : Nat) : Int)).toNat).2.2.2.2.1) (doneB (((settleD d0 (min d1 ((d0.2.2.2.2.2.2.length : Nat) : Int)).toNat).2.2.2.2.2.1).1) (x45.1, x45.2.1, (x45.2.2.1).take ((min d2 (((x45.2.2.1.length : Nat) : Int) - 1)).toNat), x45.2.2.2)) (((settleD d0 (min d1 ((d0.2.2.2.2.2.2.length : Nat) : Int)).toNat).2.2.2.2.2.1).2.1) (((settleD d0 (min d1 ((d0.2.2.2.2.2.2.length : Nat) : Int)).toNat).2.2.2.2.2.1).2.2.1) (((settleD d0 (min d1 ((d0.2.2.2.2.2.2.length : Nat) : Int)).toNat).2.2.2.2.2.1).2.2.2) [] (Seps.nilAt 5 hg51) (by simp only [inK]; (exact fin2_dStart_ok)) (by simp only [inK]; (exact fin2_dStart_ok)) (OwnL.ow (Ow.ownl f50_0 rfl mnil) rfl) (OwnL.ow (Ow.ownl q38_6 rfl mnil) rfl) (OwnL.ow (Ow.ownl q38_7 rfl mnil) rfl) (OwnL.ow (Ow.ownl q38_8 rfl mnil) rfl) (Ow.nil _ _))) (fun mc51 ho51 => ?_)
                refine VO.kp [151, 147, 143, 0] [(151, mc51), (147, mone g46 (.cells [Value.int .i64 (x45.1), Value.int .i64 (x45.2.1), Value.slice q45_A2 ((min d2 (((x45.2.2.1.length : Nat) : Int) - 1)).toNat) (q45_c2), Value.int .i64 (x45.2.2.2)].toArray 107 (0, 0))), (143, q38_n9), (0, mout (wm W) (m0))] ?_
                refine VO.k8 0 1 2 6 7 8 11 49 ?_
                refine VC.rs ?_
                refine VO.as ?_
                refine VO.k8 0 1 2 6 7 8 11 49 ?_
                refine VC.ret ?_
                refine ⟨_, _, res_run (rs := [.tmp 6]) rfl (.tmp rfl .nil), fun W_ hI => out_of (l := [mc51]) hI [151] rfl rfl (mle_refl _) (fun hS_ => ?_)⟩
                dsimp only [packV]
                have hm0_ : ((dStart d0 d1 d2).1 : DdiskDisk) = ((settleD d0 (min d1 ((d0.2.2.2.2.2.2.length : Nat) : Int)).toNat).1, false, false, 0, (settleD d0 (min d1 ((d0.2.2.2.2.2.2.length : Nat) : Int)).toNat).2.2.2.2.1, (doneB (((settleD d0 (min d1 ((d0.2.2.2.2.2.2.length : Nat) : Int)).toNat).2.2.2.2.2.1).1) (x45.1, x45.2.1, (x45.2.2.1).take ((min d2 (((x45.2.2.1.length : Nat) : Int) - 1)).toNat), x45.2.2.2), ((settleD d0 (min d1 ((d0.2.2.2.2.2.2.length : Nat) : Int)).toNat).2.2.2.2.2.1).2), []) := by first | rfl | (exact fin0_dStart_ok)
                refine ⟨?_, ?_⟩
                rotate_left
                · rw [hm0_]; exact (Ow.up ho51 (hS_.1 _ (.head _)))
                all_goals (first | rfl | (exact fin0_dStart_ok))
              · -- FFFFTT1
                refine VD.y rfl rfl (.inl rfl) (.ixa (i := 1) (o := 6) rfl rfl tar59 hi49 rfl rfl) ?_
                refine VD.y rfl rfl (.inl rfl) (.ld1 144 rfl tk38 rfl (cellsAt_one rfl rfl)) ?_
                refine VD.y rfl rfl (.inl rfl) (.ldA 147 rfl tk107 rfl (cellsAt_one rfl rfl)) ?_
                refine VD.y rfl rfl (.inl rfl) (.nilp rfl) ?_
                refine VD.y rfl rfl (.inl rfl) (.fa rfl tst62 rfl) ?_
                refine VD.call 140 rfl rfl (.inl rfl) fnOk71 rfl rfl (fun _ _ h => h.sub [147, 144, 143, 0]) (fun W hW => dDone_ok W (hW.at (i := 140) rfl) (OwnL.ow (Ow.ownl q38_6 rfl mnil) rfl) (mk_diskstep (m := mout (wm W) (q38_n6)) x45.1 x45.2.1 ((x45.2.2.1).take ((min d2 (((x45.2.2.1.length : Nat) : Int) - 1)).toNat)) x45.2.2.2 (by simp only [inK]; (exact fin2_dStart_ok)) (by simp only [inK]; (exact fin2_dStart_ok)) (Rd.mono hs48 (hW.out (i := 140) (j := 143) rfl rfl)) (by simp only [inK]; (exact fin2_dStart_ok))) (by intro h_; omega) (by (have h_ := (start_good (by assumption) ‹_[0]? = some _›).2.2; first | (rw [getF0 ‹_ = (0 : Int)›] at h_; simp only [List.length_take]; omega) | (rw [getF1 ‹_ = (1 : Int)›] at h_; simp only [List.length_take]; omega) | (rw [getF2 ‹_ = (2 : Int)›] at h_; simp only [List.length_take]; omega) | (rw [getF3 ‹_ = (3 : Int)›] at h_; simp only [List.length_take]; omega)))) (fun v52 m52 hv52 => ?_)
                try dsimp only at hv52
                obtain ⟨s52_0, rfl, f52_0⟩ := hv52
                obtain ⟨A52_0, c52_0, eq52_0, l52_0, k52_0⟩ := f52_0.slice
                subst eq52_0
                simp only [maxLen] at k52_0
                refine VD.nil rfl ?_ rfl
                refine VO.y rfl (.ixa (i := 1) (o := 6) rfl rfl tar59 hi49 rfl rfl) ?_
                refine VO.store (k := 1) 144 rfl rfl (.inr ⟨tk38, rfl⟩) rfl rfl rfl rfl rfl ?_
                refine VO.k8 0 1 2 6 7 8 11 49 ?_
                refine outN ?_
                refine VC.rs ?_
                refine VO.mv ?_
                refine VO.mv ?_
                refine VO.mv ?_
                refine VO.mv ?_
                refine VO.y rfl (.nilp rfl) ?_
                refine VO.y rfl (.fa rfl tst62 rfl) ?_
                refine VO.store (k := 1) 144 rfl rfl (.inr ⟨tk60, rfl⟩) rfl rfl rfl rfl rfl ?_
                refine VO.y rfl (.nilp rfl) ?_
                refine VO.y rfl (.fa rfl tst62 rfl) ?_
                refine VO.store (k := 1) 144 rfl rfl (.inr ⟨tk4, rfl⟩) rfl rfl rfl rfl rfl ?_
                refine VO.y rfl (.nilp rfl) ?_
                refine VO.y rfl (.fa rfl tst62 rfl) ?_
                refine VO.store (k := 1) 144 rfl rfl (.inr ⟨tk4, rfl⟩) rfl rfl rfl rfl rfl ?_
                refine VO.y rfl (.nilp rfl) ?_
                refine VO.y rfl (.fa rfl tst62 rfl) ?_
                refine VO.store (k := 1) 144 rfl rfl (.inr ⟨tk3, rfl⟩) rfl rfl rfl rfl rfl ?_
                refine VO.clsP 153 [144, 139, 140, 141, 142] rfl (fun hg53 => (mkP_diskDisk ((settleD d0 (min d1 ((d0.2.2.2.2.2.2.length : Nat) : Int)).toNat).1) false false 0 ((settleD d0 (min d1 ((d0.2.2.2.2.2.2.length : Nat) : Int)).toNat).2.2.2.2.1) (((settleD d0 (min d1 ((d0.2.2.2.2.2.2.length : Nat) : Int)).toNat).2.2.2.2.2.1).1) (doneB (((settleD d0 (min d1 ((d0.2.2.2.2.2.2.length : Nat) : Int)).toNat).2.2.2.2.2.1).2.1) (x45.1, x45.2.1, (x45.2.2.1).take ((min d2 (((x45.2.2.1.length : Nat) : Int) - 1)).toNat), x45.2.2.2)) (((settleD d0 (min d1 ((d0.2.2.2.2.2.2.length : Nat) : Int)).toNat).2.2.2.2.2.1).2.2.1) (((settleD d0 (min d1 ((d0.2.2.2.2.2.2.length : Nat) : Int)).toNat).2.2.2.2.2.1).2.2.2) [] (Seps.nilAt 5 hg53) (by simp only [inK]; (exact fin2_dStart_ok)) (by simp only [inK]; (exact fin2_dStart_ok)) (OwnL.ow (Ow.ownl q38_5 rfl mnil) rfl) (OwnL.ow (Ow.ownl f52_0 rfl mnil) rfl) (OwnL.ow (Ow.ownl q38_7 rfl mnil) rfl) (OwnL.ow (Ow.ownl q38_8 rfl mnil) rfl) (Ow.nil _ _))) (fun mc53 ho53 => ?_)
                refine VO.kp [153, 147, 143, 0] [(153, mc53), (147, mone g46 (.cells [Value.int .i64 (x45.1), Value.int .i64 (x45.2.1), Value.slice q45_A2 ((min d2 (((x45.2.2.1.length : Nat) : Int) - 1)).toNat) (q45_c2), Value.int .i64 (x45.2.2.2)].toArray 107 (0, 0))), (143, q38_n9), (0, mout (wm W) (m0))] ?_
                refine VO.k8 0 1 2 6 7 8 11 49 ?_
                refine VC.rs ?_
                refine VO.as ?_
                refine VO.k8 0 1 2 6 7 8 11 49 ?_
                refine VC.ret ?_
                refine ⟨_, _, res_run (rs := [.tmp 6]) rfl (.tmp rfl .nil), fun W_ hI => out_of (l := [mc53]) hI [153] rfl rfl (mle_refl _) (fun hS_ => ?_)⟩
                dsimp only [packV]
                have hm0_ : ((dStart d0 d1 d2).1 : DdiskDisk) = ((settleD d0 (min d1 ((d0.2.2.2.2.2.2.length : Nat) : Int)).toNat).1, false, false, 0, (settleD d0 (min d1 ((d0.2.2.2.2.2.2.length : Nat) : Int)).toNat).2.2.2.2.1, (((settleD d0 (min d1 ((d0.2.2.2.2.2.2.length : Nat) : Int)).toNat).2.2.2.2.2.1).1, doneB (((settleD d0 (min d1 ((d0.2.2.2.2.2.2.length : Nat) : Int)).toNat).2.2.2.2.2.1).2.1) (x45.1, x45.2.1, (x45.2.2.1).take ((min d2 (((x45.2.2.1.length : Nat) : Int) - 1)).toNat), x45.2.2.2), ((settleD d0 (min d1 ((d0.2.2.2.2.2.2.length : Nat) : Int)).toNat).2.2.2.2.2.1).2.2), []) := by first | rfl | (exact fin0_dStart_ok)
                refine ⟨?_, ?_⟩
                rotate_left
                · rw [hm0_]; exact (Ow.up ho53 (hS_.1 _ (.head _)))
                all_goals (first | rfl | (exact fin0_dStart_ok))
              · -- FFFFTT2
                refine VD.y rfl rfl (.inl rfl) (.ixa (i := 2) (o := 7) rfl rfl tar59 hi49 rfl rfl) ?_
                refine VD.y rfl rfl (.inl rfl) (.ld1 144 rfl tk38 rfl (cellsAt_one rfl rfl)) ?_
                refine VD.y rfl rfl (.inl rfl) (.ldA 147 rfl tk107 rfl (cellsAt_one rfl rfl)) ?_
                refine VD.y rfl rfl (.inl rfl) (.nilp rfl) ?_
                refine VD.y rfl rfl (.inl rfl) (.fa rfl tst62 rfl) ?_
                refine VD.call 141 rfl rfl (.inl rfl) fnOk71 rfl rfl (fun _ _ h => h.sub [147, 144, 143, 0]) (fun W hW => dDone_ok W (hW.at (i := 141) rfl) (OwnL.ow (Ow.ownl q38_7 rfl mnil) rfl) (mk_diskstep (m := mout (wm W) (q38_n7)) x45.1 x45.2.1 ((x45.2.2.1).take ((min d2 (((x45.2.2.1.length : Nat) : Int) - 1)).toNat)) x45.2.2.2 (by simp only [inK]; (exact fin2_dStart_ok)) (by simp only [inK]; (exact fin2_dStart_ok)) (Rd.mono hs48 (hW.out (i := 141) (j := 143) rfl rfl)) (by simp only [inK]; (exact fin2_dStart_ok))) (by intro h_; omega) (by (have h_ := (start_good (by assumption) ‹_[0]? = some _›).2.2; first | (rw [getF0 ‹_ = (0 : Int)›] at h_; simp only [List.length_take]; omega) | (rw [getF1 ‹_ = (1 : Int)›] at h_; simp only [List.length_take]; omega) | (rw [getF2 ‹_ = (2 : Int)›] at h_; simp only [List.length_take]; omega) | (rw [getF3 ‹_ = (3 : Int)›] at h_; simp only [List.length_take]; omega)))) (fun v54 m54 hv54 => ?_)
                try dsimp only at hv54
                obtain ⟨s54_0, rfl, f54_0⟩ := hv54
                obtain ⟨A54_0, c54_0, eq54_0, l54_0, k54_0⟩ := f54_0.slice
                subst eq54_0
                simp only [maxLen] at k54_0
                refine VD.nil rfl ?_ rfl
                refine VO.y rfl (.ixa (i := 2) (o := 7) rfl rfl tar59 hi49 rfl rfl) ?_
                refine VO.store (k := 1) 144 rfl rfl (.inr ⟨tk38, rfl⟩) rfl rfl rfl rfl rfl ?_
                refine VO.k8 0 1 2 6 7 8 11 49 ?_
                refine outN ?_
                refine VC.rs ?_
                refine VO.mv ?_
                refine VO.mv ?_
                refine VO.mv ?_
                refine VO.mv ?_
                refine VO.y rfl (.nilp rfl) ?_
                refine VO.y rfl (.fa rfl tst62 rfl) ?_
                refine VO.store (k := 1) 144 rfl rfl (.inr ⟨tk60, rfl⟩) rfl rfl rfl rfl rfl ?_
                refine VO.y rfl (.nilp rfl) ?_
                refine VO.y rfl (.fa rfl tst62 rfl) ?_
                refine VO.store (k := 1) 144 rfl rfl (.inr ⟨tk4, rfl⟩) rfl rfl rfl rfl rfl ?_
                refine VO.y rfl (.nilp rfl) ?_
                refine VO.y rfl (.fa rfl tst62 rfl) ?_
                refine VO.store (k := 1) 144 rfl rfl (.inr ⟨tk4, rfl⟩) rfl rfl rfl rfl rfl ?_
                refine VO.y rfl (.nilp rfl) ?_
                refine VO.y rfl (.fa rfl tst62 rfl) ?_
                refine VO.store (k := 1) 144 rfl rfl (.inr ⟨tk3, rfl⟩) rfl rfl rfl rfl rfl ?_
                refine VO.clsP 155 [144, 139, 140, 141, 142] rfl (fun hg55 => (mkP_diskDisk ((settleD d0 (min d1 ((d0.2.2.2.2.2.2.length : Nat) : Int)).toNat).1) false false 0 ((settleD d0 (min d1 ((d0.2.2.2.2.2.2.length : Nat) : Int)).toNat).2.2.2.2.1) (((settleD d0 (min d1 ((d0.2.2.2.2.2.2.length : Nat) : Int)).toNat).2.2.2.2.2.1).1) (((settleD d0 (min d1 ((d0.2.2.2.2.2.2.length : Nat) : Int)).toNat).2.2.2.2.2.1).2.1) (doneB (((settleD d0 (min d1 ((d0.2.2.2.2.2.2.length : Nat) : Int)).toNat).2.2.2.2.2.1).2.2.1) (x45.1, x45.2.1, (x45.2.2.1).take ((min d2 (((x45.2.2.1.length : Nat) : Int) - 1)).toNat), x45.2.2.2)) (((settleD d0 (min d1 ((d0.2.2.2.2.2.2.length : Nat) : Int)).toNat).2.2.2.2.2.1).2.2.2) [] (Seps.nilAt 5 hg55) (by simp only [inK]; (exact fin2_dStart_ok)) (by simp only [inK]; (exact fin2_dStart_ok)) (OwnL.ow (Ow.ownl q38_5 rfl mnil) rfl) (OwnL.ow (Ow.ownl q38_6 rfl mnil) rfl) (OwnL.ow (Ow.ownl f54_0 rfl mnil) rfl) (OwnL.ow (Ow.ownl q38_8 rfl mnil) rfl) (Ow.nil _ _))) (fun mc55 ho55 => ?_)
                refine VO.kp [155, 147, 143, 0] [(155, mc55), (147, mone g46 (.cells [Value.int .i64 (x45.1), Value.int .i64 (x45.2.1), Value.slice q45_A2 ((min d2 (((x45.2.2.1.length : Nat) : Int) - 1)).toNat) (q45_c2), Value.int .i64 (x45.2.2.2)].toArray 107 (0, 0))), (143, q38_n9), (0, mout (wm W) (m0))] ?_
                refine VO.k8 0 1 2 6 7 8 11 49 ?_
                refine VC.rs ?_
                refine VO.as ?_
                refine VO.k8 0 1 2 6 7 8 11 49 ?_
                refine VC.ret ?_
                refine ⟨_, _, res_run (rs := [.tmp 6]) rfl (.tmp rfl .nil), fun W_ hI => out_of (l := [mc55]) hI [155] rfl rfl (mle_refl _) (fun hS_ => ?_)⟩
                dsimp only [packV]
                have hm0_ : ((dStart d0 d1 d2).1 : DdiskDisk) = ((settleD d0 (min d1 ((d0.2.2.2.2.2.2.length : Nat) : Int)).toNat).1, false, false, 0, (settleD d0 (min d1 ((d0.2.2.2.2.2.2.length : Nat) : Int)).toNat).2.2.2.2.1, (((settleD d0 (min d1 ((d0.2.2.2.2.2.2.length : Nat) : Int)).toNat).2.2.2.2.2.1).1, ((settleD d0 (min d1 ((d0.2.2.2.2.2.2.length : Nat) : Int)).toNat).2.2.2.2.2.1).2.1, doneB (((settleD d0 (min d1 ((d0.2.2.2.2.2.2.length : Nat) : Int)).toNat).2.2.2.2.2.1).2.2.1) (x45.1, x45.2.1, (x45.2.2.1).take ((min d2 (((x45.2.2.1.length : Nat) : Int) - 1)).toNat), x45.2.2.2), ((settleD d0 (min d1 ((d0.2.2.2.2.2.2.length : Nat) : Int)).toNat).2.2.2.2.2.1).2.2.2), []) := by first | rfl | (exact fin0_dStart_ok)
                refine ⟨?_, ?_⟩
                rotate_left
                · rw [hm0_]; exact (Ow.up ho55 (hS_.1 _ (.head _)))
                all_goals (first | rfl | (exact fin0_dStart_ok))
              · -- FFFFTT3
                refine VD.y rfl rfl (.inl rfl) (.ixa (i := 3) (o := 8) rfl rfl tar59 hi49 rfl rfl) ?_
                refine VD.y rfl rfl (.inl rfl) (.ld1 144 rfl tk38 rfl (cellsAt_one rfl rfl)) ?_
                refine VD.y rfl rfl (.inl rfl) (.ldA 147 rfl tk107 rfl (cellsAt_one rfl rfl)) ?_
                refine VD.y rfl rfl (.inl rfl) (.nilp rfl) ?_
                refine VD.y rfl rfl (.inl rfl) (.fa rfl tst62 rfl) ?_
                refine VD.call 142 rfl rfl (.inl rfl) fnOk71 rfl rfl (fun _ _ h => h.sub [147, 144, 143, 0]) (fun W hW => dDone_ok W (hW.at (i := 142) rfl) (OwnL.ow (Ow.ownl q38_8 rfl mnil) rfl) (mk_diskstep (m := mout (wm W) (q38_n8)) x45.1 x45.2.1 ((x45.2.2.1).take ((min d2 (((x45.2.2.1.length : Nat) : Int) - 1)).toNat)) x45.2.2.2 (by simp only [inK]; (exact fin2_dStart_ok)) (by simp only [inK]; (exact fin2_dStart_ok)) (Rd.mono hs48 (hW.out (i := 142) (j := 143) rfl rfl)) (by simp only [inK]; (exact fin2_dStart_ok))) (by intro h_; omega) (by (have h_ := (start_good (by assumption) ‹_[0]? = some _›).2.2; first | (rw [getF0 ‹_ = (0 : Int)›] at h_; simp only [List.length_take]; omega) | (rw [getF1 ‹_ = (1 : Int)›] at h_; simp only [List.length_take]; omega) | (rw [getF2 ‹_ = (2 : Int)›] at h_; simp only [List.length_take]; omega) | (rw [getF3 ‹_ = (3 : Int)›] at h_; simp only [List.length_take]; omega)))) (fun v56 m56 hv56 => ?_)
                try dsimp only at hv56
                obtain ⟨s56_0, rfl, f56_0⟩ := hv56
                obtain ⟨A56_0, c56_0, eq56_0, l56_0, k56_0⟩ := f56_0.slice
                subst eq56_0
                simp only [maxLen] at k56_0
                refine VD.nil rfl ?_ rfl
                refine VO.y rfl (.ixa (i := 3) (o := 8) rfl rfl tar59 hi49 rfl rfl) ?_
                refine VO.store (k := 1) 144 rfl rfl (.inr ⟨tk38, rfl⟩) rfl rfl rfl rfl rfl ?_
                refine VO.k8 0 1 2 6 7 8 11 49 ?_
                refine outN ?_
                refine VC.rs ?_
                refine VO.mv ?_
                refine VO.mv ?_
                refine VO.mv ?_
                refine VO.mv ?_
                refine VO.y rfl (.nilp rfl) ?_
                refine VO.y rfl (.fa rfl tst62 rfl) ?_
                refine VO.store (k := 1) 144 rfl rfl (.inr ⟨tk60, rfl⟩) rfl rfl rfl rfl rfl ?_
                refine VO.y rfl (.nilp rfl) ?_
                refine VO.y rfl (.fa rfl tst62 rfl) ?_
                refine VO.store (k := 1) 144 rfl rfl (.inr ⟨tk4, rfl⟩) rfl rfl rfl rfl rfl ?_
                refine VO.y rfl (.nilp rfl) ?_
                refine VO.y rfl (.fa rfl tst62 rfl) ?_
                refine VO.store (k := 1) 144 rfl rfl (.inr ⟨tk4, rfl⟩) rfl rfl rfl rfl rfl ?_
                refine VO.y rfl (.nilp rfl) ?_
                refine VO.y rfl (.fa rfl tst62 rfl) ?_
                refine VO.store (k := 1) 144 rfl rfl (.inr ⟨tk3, rfl⟩) rfl rfl rfl rfl rfl ?_
                refine VO.clsP 157 [144, 139, 140, 141, 142] rfl (fun hg57 => (mkP_diskDisk ((settleD d0 (min d1 ((d0.2.2.2.2.2.2.length : Nat) : Int)).toNat).1) false false 0 ((settleD d0 (min d1 ((d0.2.2.2.2.2.2.length : Nat) : Int)).toNat).2.2.2.2.1) (((settleD d0 (min d1 ((d0.2.2.2.2.2.2.length : Nat) : Int)).toNat).2.2.2.2.2.1).1) (((settleD d0 (min d1 ((d0.2.2.2.2.2.2.length : Nat) : Int)).toNat).2.2.2.2.2.1).2.1) (((settleD d0 (min d1 ((d0.2.2.2.2.2.2.length : Nat) : Int)).toNat).2.2.2.2.2.1).2.2.1) (doneB (((settleD d0 (min d1 ((d0.2.2.2.2.2.2.length : Nat) : Int)).toNat).2.2.2.2.2.1).2.2.2) (x45.1, x45.2.1, (x45.2.2.1).take ((min d2 (((x45.2.2.1.length : Nat) : Int) - 1)).toNat), x45.2.2.2)) [] (Seps.nilAt 5 hg57) (by simp only [inK]; (exact fin2_dStart_ok)) (by simp only [inK]; (exact fin2_dStart_ok)) (OwnL.ow (Ow.ownl q38_5 rfl mnil) rfl) (OwnL.ow (Ow.ownl q38_6 rfl mnil) rfl) (OwnL.ow (Ow.ownl q38_7 rfl mnil) rfl) (OwnL.ow (Ow.ownl f56_0 rfl mnil) rfl) (Ow.nil _ _))) (fun mc57 ho57 => ?_)
                refine VO.kp [157, 147, 143, 0] [(157, mc57), (147, mone g46 (.cells [Value.int .i64 (x45.1), Value.int .i64 (x45.2.1), Value.slice q45_A2 ((min d2 (((x45.2.2.1.length : Nat) : Int) - 1)).toNat) (q45_c2), Value.int .i64 (x45.2.2.2)].toArray 107 (0, 0))), (143, q38_n9), (0, mout (wm W) (m0))] ?_
                refine VO.k8 0 1 2 6 7 8 11 49 ?_
                refine VC.rs ?_
                refine VO.as ?_
                refine VO.k8 0 1 2 6 7 8 11 49 ?_
                refine VC.ret ?_
                refine ⟨_, _, res_run (rs := [.tmp 6]) rfl (.tmp rfl .nil), fun W_ hI => out_of (l := [mc57]) hI [157] rfl rfl (mle_refl _) (fun hS_ => ?_)⟩
                dsimp only [packV]
                have hm0_ : ((dStart d0 d1 d2).1 : DdiskDisk) = ((settleD d0 (min d1 ((d0.2.2.2.2.2.2.length : Nat) : Int)).toNat).1, false, false, 0, (settleD d0 (min d1 ((d0.2.2.2.2.2.2.length : Nat) : Int)).toNat).2.2.2.2.1, (((settleD d0 (min d1 ((d0.2.2.2.2.2.2.length : Nat) : Int)).toNat).2.2.2.2.2.1).1, ((settleD d0 (min d1 ((d0.2.2.2.2.2.2.length : Nat) : Int)).toNat).2.2.2.2.2.1).2.1, ((settleD d0 (min d1 ((d0.2.2.2.2.2.2.length : Nat) : Int)).toNat).2.2.2.2.2.1).2.2.1, doneB (((settleD d0 (min d1 ((d0.2.2.2.2.2.2.length : Nat) : Int)).toNat).2.2.2.2.2.1).2.2.2) (x45.1, x45.2.1, (x45.2.2.1).take ((min d2 (((x45.2.2.1.length : Nat) : Int) - 1)).toNat), x45.2.2.2)), []) := by first | rfl | (exact fin0_dStart_ok)
                refine ⟨?_, ?_⟩
                rotate_left
                · rw [hm0_]; exact (Ow.up ho57 (hS_.1 _ (.head _)))
                all_goals (first | rfl | (exact fin0_dStart_ok))
            · -- FFFFTF
              refine VC.skip ?_
              refine outN ?_
              refine VC.rs ?_
              refine VO.mv ?_
              refine VO.mv ?_
              refine VO.mv ?_
              refine VO.mv ?_
              refine VO.y rfl (.nilp rfl) ?_
              refine VO.y rfl (.fa rfl tst62 rfl) ?_
              obtain ⟨q58_E, q58_A5, q58_c5, q58_A6, q58_c6, q58_A7, q58_c7, q58_A8, q58_c8, q58_A9, q58_c9, q58_n5, q58_n6, q58_n7, q58_n8, q58_n9, _, q58_S, q58_3, q58_4, q58_5, q58_6, q58_7, q58_8, q58_9⟩ := openP_diskDisk (x0 := (settleD d0 (min d1 ((d0.2.2.2.2.2.2.length : Nat) : Int)).toNat).1) (x1 := (settleD d0 (min d1 ((d0.2.2.2.2.2.2.length : Nat) : Int)).toNat).2.1) (x2 := (settleD d0 (min d1 ((d0.2.2.2.2.2.2.length : Nat) : Int)).toNat).2.2.1) (x3 := (settleD d0 (min d1 ((d0.2.2.2.2.2.2.length : Nat) : Int)).toNat).2.2.2.1) (x4 := (settleD d0 (min d1 ((d0.2.2.2.2.2.2.length : Nat) : Int)).toNat).2.2.2.2.1) (x5 := ((settleD d0 (min d1 ((d0.2.2.2.2.2.2.length : Nat) : Int)).toNat).2.2.2.2.2.1).1) (x6 := ((settleD d0 (min d1 ((d0.2.2.2.2.2.2.length : Nat) : Int)).toNat).2.2.2.2.2.1).2.1) (x7 := ((settleD d0 (min d1 ((d0.2.2.2.2.2.2.length : Nat) : Int)).toNat).2.2.2.2.2.1).2.2.1) (x8 := ((settleD d0 (min d1 ((d0.2.2.2.2.2.2.length : Nat) : Int)).toNat).2.2.2.2.2.1).2.2.2) (x9 := (settleD d0 (min d1 ((d0.2.2.2.2.2.2.length : Nat) : Int)).toNat).2.2.2.2.2.2) ho36
              simp only [inK] at q58_3
              simp only [inK] at q58_4
              have q58_r5 := q58_5.rm
              have q58_r6 := q58_6.rm
              have q58_r7 := q58_7.rm
              have q58_r8 := q58_8.rm
              have q58_r9 := q58_9.rm
              refine VO.inv _ (fun _ h => h.parts (i := 136) rfl q58_S [164, 159, 160, 161, 162, 163]) ?_
              refine VO.store (k := 1) 164 rfl rfl (.inr ⟨tk60, rfl⟩) rfl rfl rfl rfl rfl ?_
              refine VO.y rfl (.nilp rfl) ?_
              refine VO.y rfl (.fa rfl tst62 rfl) ?_
              refine VO.store (k := 1) 164 rfl rfl (.inr ⟨tk4, rfl⟩) rfl rfl rfl rfl rfl ?_
              refine VO.y rfl (.nilp rfl) ?_
              refine VO.y rfl (.fa rfl tst62 rfl) ?_
              refine VO.store (k := 1) 164 rfl rfl (.inr ⟨tk4, rfl⟩) rfl rfl rfl rfl rfl ?_
              refine VO.y rfl (.nilp rfl) ?_
              refine VO.y rfl (.fa rfl tst62 rfl) ?_
              refine VO.store (k := 1) 164 rfl rfl (.inr ⟨tk3, rfl⟩) rfl rfl rfl rfl rfl ?_
              refine VO.clsP 165 [164, 159, 160, 161, 162] rfl (fun hg65 => (mkP_diskDisk ((settleD d0 (min d1 ((d0.2.2.2.2.2.2.length : Nat) : Int)).toNat).1) false false 0 ((settleD d0 (min d1 ((d0.2.2.2.2.2.2.length : Nat) : Int)).toNat).2.2.2.2.1) (((settleD d0 (min d1 ((d0.2.2.2.2.2.2.length : Nat) : Int)).toNat).2.2.2.2.2.1).1) (((settleD d0 (min d1 ((d0.2.2.2.2.2.2.length : Nat) : Int)).toNat).2.2.2.2.2.1).2.1) (((settleD d0 (min d1 ((d0.2.2.2.2.2.2.length : Nat) : Int)).toNat).2.2.2.2.2.1).2.2.1) (((settleD d0 (min d1 ((d0.2.2.2.2.2.2.length : Nat) : Int)).toNat).2.2.2.2.2.1).2.2.2) [] (Seps.nilAt 5 hg65) (by simp only [inK]; (exact fin2_dStart_ok)) (by simp only [inK]; (exact fin2_dStart_ok)) (OwnL.ow (Ow.ownl q58_5 rfl mnil) rfl) (OwnL.ow (Ow.ownl q58_6 rfl mnil) rfl) (OwnL.ow (Ow.ownl q58_7 rfl mnil) rfl) (OwnL.ow (Ow.ownl q58_8 rfl mnil) rfl) (Ow.nil _ _))) (fun mc65 ho65 => ?_)
              refine VO.kp [165, 0] [(165, mc65), (0, mout (wm W) (m0))] ?_
              refine VO.k7 0 1 2 6 8 11 49 ?_
              refine VC.rs ?_
              refine VO.as ?_
              refine VO.k7 0 1 2 6 8 11 49 ?_
              refine VC.ret ?_
              refine ⟨_, _, res_run (rs := [.tmp 6]) rfl (.tmp rfl .nil), fun W_ hI => out_of (l := [mc65]) hI [165] rfl rfl (mle_refl _) (fun hS_ => ?_)⟩
              dsimp only [packV]
              have hm0_ : ((dStart d0 d1 d2).1 : DdiskDisk) = ((settleD d0 (min d1 ((d0.2.2.2.2.2.2.length : Nat) : Int)).toNat).1, false, false, 0, (settleD d0 (min d1 ((d0.2.2.2.2.2.2.length : Nat) : Int)).toNat).2.2.2.2.1, ((settleD d0 (min d1 ((d0.2.2.2.2.2.2.length : Nat) : Int)).toNat).2.2.2.2.2.1), []) := by first | rfl | (exact fin0_dStart_ok)
              refine ⟨?_, ?_⟩
              rotate_left
              · rw [hm0_]; exact (Ow.up ho65 (hS_.1 _ (.head _)))
              all_goals (first | rfl | (exact fin0_dStart_ok))
          · -- FFFFF
            refine VO.gN ?_
            refine VO.gN ?_
            refine VO.gN ?_
            refine VO.gN ?_
            refine VO.gN ?_
            refine VO.gN ?_
            refine VO.gN ?_
            refine VO.gN ?_
            refine VO.y rfl (.pF rfl rfl) ?_
            refine VO.clsP 166 [133, 128, 129, 130, 131, 132] rfl (fun hg66 => (show Ow (.ptr TdiskDisk) _ _ (_, (settleD d0 (min d1 ((d0.2.2.2.2.2.2.length : Nat) : Int)).toNat)) from (mkP_diskDisk ((settleD d0 (min d1 ((d0.2.2.2.2.2.2.length : Nat) : Int)).toNat).1) ((settleD d0 (min d1 ((d0.2.2.2.2.2.2.length : Nat) : Int)).toNat).2.1) ((settleD d0 (min d1 ((d0.2.2.2.2.2.2.length : Nat) : Int)).toNat).2.2.1) ((settleD d0 (min d1 ((d0.2.2.2.2.2.2.length : Nat) : Int)).toNat).2.2.2.1) ((settleD d0 (min d1 ((d0.2.2.2.2.2.2.length : Nat) : Int)).toNat).2.2.2.2.1) (((settleD d0 (min d1 ((d0.2.2.2.2.2.2.length : Nat) : Int)).toNat).2.2.2.2.2.1).1) (((settleD d0 (min d1 ((d0.2.2.2.2.2.2.length : Nat) : Int)).toNat).2.2.2.2.2.1).2.1) (((settleD d0 (min d1 ((d0.2.2.2.2.2.2.length : Nat) : Int)).toNat).2.2.2.2.2.1).2.2.1) (((settleD d0 (min d1 ((d0.2.2.2.2.2.2.length : Nat) : Int)).toNat).2.2.2.2.2.1).2.2.2) ((settleD d0 (min d1 ((d0.2.2.2.2.2.2.length : Nat) : Int)).toNat).2.2.2.2.2.2) hg66 (by simp only [inK]; (exact fin2_dStart_ok)) (by simp only [inK]; (exact fin2_dStart_ok)) (OwnL.ow (Ow.ownl q27_5 rfl mnil) rfl) (OwnL.ow (Ow.ownl q27_6 rfl mnil) rfl) (OwnL.ow (Ow.ownl q27_7 rfl mnil) rfl) (OwnL.ow (Ow.ownl q27_8 rfl mnil) rfl) q27_9))) (fun mc66 ho66 => ?_)
            refine VO.k7 0 1 2 6 8 11 49 ?_
            refine VC.condF rfl ?_
            refine VC.skip ?_
            refine outN ?_
            refine VC.rs ?_
            refine VO.mv ?_
            refine VO.mv ?_
            refine VO.mv ?_
            refine VO.mv ?_
            refine VO.y rfl (.nilp rfl) ?_
            refine VO.y rfl (.fa rfl tst62 rfl) ?_
            obtain ⟨q67_E, q67_A5, q67_c5, q67_A6, q67_c6, q67_A7, q67_c7, q67_A8, q67_c8, q67_A9, q67_c9, q67_n5, q67_n6, q67_n7, q67_n8, q67_n9, _, q67_S, q67_3, q67_4, q67_5, q67_6, q67_7, q67_8, q67_9⟩ := openP_diskDisk (x0 := (settleD d0 (min d1 ((d0.2.2.2.2.2.2.length : Nat) : Int)).toNat).1) (x1 := (settleD d0 (min d1 ((d0.2.2.2.2.2.2.length : Nat) : Int)).toNat).2.1) (x2 := (settleD d0 (min d1 ((d0.2.2.2.2.2.2.length : Nat) : Int)).toNat).2.2.1) (x3 := (settleD d0 (min d1 ((d0.2.2.2.2.2.2.length : Nat) : Int)).toNat).2.2.2.1) (x4 := (settleD d0 (min d1 ((d0.2.2.2.2.2.2.length : Nat) : Int)).toNat).2.2.2.2.1) (x5 := ((settleD d0 (min d1 ((d0.2.2.2.2.2.2.length : Nat) : Int)).toNat).2.2.2.2.2.1).1) (x6 := ((settleD d0 (min d1 ((d0.2.2.2.2.2.2.length : Nat) : Int)).toNat).2.2.2.2.2.1).2.1) (x7 := ((settleD d0 (min d1 ((d0.2.2.2.2.2.2.length : Nat) : Int)).toNat).2.2.2.2.2.1).2.2.1) (x8 := ((settleD d0 (min d1 ((d0.2.2.2.2.2.2.length : Nat) : Int)).toNat).2.2.2.2.2.1).2.2.2) (x9 := (settleD d0 (min d1 ((d0.2.2.2.2.2.2.length : Nat) : Int)).toNat).2.2.2.2.2.2) ho66
            simp only [inK] at q67_3
            simp only [inK] at q67_4
            have q67_r5 := q67_5.rm
            have q67_r6 := q67_6.rm
            have q67_r7 := q67_7.rm
            have q67_r8 := q67_8.rm
            have q67_r9 := q67_9.rm
            refine VO.inv _ (fun _ h => h.parts (i := 166) rfl q67_S [173, 168, 169, 170, 171, 172]) ?_
            refine VO.store (k := 1) 173 rfl rfl (.inr ⟨tk60, rfl⟩) rfl rfl rfl rfl rfl ?_
            refine VO.y rfl (.nilp rfl) ?_
            refine VO.y rfl (.fa rfl tst62 rfl) ?_
            refine VO.store (k := 1) 173 rfl rfl (.inr ⟨tk4, rfl⟩) rfl rfl rfl rfl rfl ?_
            refine VO.y rfl (.nilp rfl) ?_
            refine VO.y rfl (.fa rfl tst62 rfl) ?_
            refine VO.store (k := 1) 173 rfl rfl (.inr ⟨tk4, rfl⟩) rfl rfl rfl rfl rfl ?_
            refine VO.y rfl (.nilp rfl) ?_
            refine VO.y rfl (.fa rfl tst62 rfl) ?_
            refine VO.store (k := 1) 173 rfl rfl (.inr ⟨tk3, rfl⟩) rfl rfl rfl rfl rfl ?_
            refine VO.clsP 174 [173, 168, 169, 170, 171] rfl (fun hg74 => (mkP_diskDisk ((settleD d0 (min d1 ((d0.2.2.2.2.2.2.length : Nat) : Int)).toNat).1) false false 0 ((settleD d0 (min d1 ((d0.2.2.2.2.2.2.length : Nat) : Int)).toNat).2.2.2.2.1) (((settleD d0 (min d1 ((d0.2.2.2.2.2.2.length : Nat) : Int)).toNat).2.2.2.2.2.1).1) (((settleD d0 (min d1 ((d0.2.2.2.2.2.2.length : Nat) : Int)).toNat).2.2.2.2.2.1).2.1) (((settleD d0 (min d1 ((d0.2.2.2.2.2.2.length : Nat) : Int)).toNat).2.2.2.2.2.1).2.2.1) (((settleD d0 (min d1 ((d0.2.2.2.2.2.2.length : Nat) : Int)).toNat).2.2.2.2.2.1).2.2.2) [] (Seps.nilAt 5 hg74) (by simp only [inK]; (exact fin2_dStart_ok)) (by simp only [inK]; (exact fin2_dStart_ok)) (OwnL.ow (Ow.ownl q67_5 rfl mnil) rfl) (OwnL.ow (Ow.ownl q67_6 rfl mnil) rfl) (OwnL.ow (Ow.ownl q67_7 rfl mnil) rfl) (OwnL.ow (Ow.ownl q67_8 rfl mnil) rfl) (Ow.nil _ _))) (fun mc74 ho74 => ?_)
            refine VO.kp [174, 0] [(174, mc74), (0, mout (wm W) (m0))] ?_
            refine VO.k7 0 1 2 6 8 11 49 ?_
            refine VC.rs ?_
            refine VO.as ?_
            refine VO.k7 0 1 2 6 8 11 49 ?_
            refine VC.ret ?_
            refine ⟨_, _, res_run (rs := [.tmp 6]) rfl (.tmp rfl .nil), fun W_ hI => out_of (l := [mc74]) hI [174] rfl rfl (mle_refl _) (fun hS_ => ?_)⟩
            dsimp only [packV]
            have hm0_ : ((dStart d0 d1 d2).1 : DdiskDisk) = ((settleD d0 (min d1 ((d0.2.2.2.2.2.2.length : Nat) : Int)).toNat).1, false, false, 0, (settleD d0 (min d1 ((d0.2.2.2.2.2.2.length : Nat) : Int)).toNat).2.2.2.2.1, ((settleD d0 (min d1 ((d0.2.2.2.2.2.2.length : Nat) : Int)).toNat).2.2.2.2.2.1), []) := by first | rfl | (exact fin0_dStart_ok)
            refine ⟨?_, ?_⟩
            rotate_left
            · rw [hm0_]; exact (Ow.up ho74 (hS_.1 _ (.head _)))
            all_goals (first | rfl | (exact fin0_dStart_ok))
abbrev TrunRuns : Ty := .pair (.ptr TdiskDisk) (.pair .bool (.sl TRun))
abbrev DrunRuns := (Nat × DdiskDisk) × Bool × (List DRun)
theorem openO_runRuns {m : Mem} {cs : List Value} {x0 : Nat × DdiskDisk} {x1 : Bool} {x2 : List DRun} (h : Ow TrunRuns m cs (x0, x1, x2)) : ∃ (A2 : Option Addr), ∃ (c2 : Nat), ∃ (n0 : Mem), ∃ (n2 : Mem), cs = [(.pointer (some ⟨x0.1, 0, none⟩) : Value), .bool x1, .slice A2 x2.length c2] ∧ Seps m [n0, n2] ∧ Ow (.ptr TdiskDisk) n0 [.pointer (some ⟨x0.1, 0, none⟩)] x0 ∧ Ow (.sl TRun) n2 [.slice A2 x2.length c2] x2 := by
  obtain ⟨p1, q1, ma1, mb1, rfl, dj1, la1, lb1, u1, w1⟩ := Ow.pair h
  have z2 := u1
  obtain ⟨rfl, _⟩ := u1
  obtain ⟨p3, q3, ma3, mb3, rfl, dj3, la3, lb3, u3, w3⟩ := Ow.pair w1
  obtain rfl := (show _ = _ from u3)
  have z5 := w3
  obtain ⟨A5, c5, rfl, _⟩ := Ow.slice1 w3
  exact ⟨A5, c5, _, _, rfl, (Seps.app dj1 la1 lb1 (Seps.one (mle_refl _)) (Seps.app dj3 la3 lb3 (Seps.nil _) (Seps.one (mle_refl _)))), z2, z5⟩
theorem mkO_runRuns {m : Mem} {n0 n2 : Mem} (x0 : Nat × DdiskDisk) (x1 : Bool) (x2 : List DRun) (hS : Seps m [n0, n2]) {v0 : Value} (h0 : Ow (.ptr TdiskDisk) n0 [v0] x0) {v2 : Value} (h2 : Ow (.sl TRun) n2 [v2] x2) : Ow TrunRuns m [v0, .bool x1, v2] (x0, x1, x2) := by
  obtain ⟨e1, la1, lb1, Sa1, Sb1⟩ := Seps.cut (l := [n0]) (r := [n2]) hS
  obtain ⟨e2, la2, lb2, Sa2, Sb2⟩ := Seps.cut (l := []) (r := [n2]) Sb1
  exact (Ow.mkPair (c1 := [_]) e1 la1 lb1 (h0.up (Sa1.1 _ (.head _))) (Ow.mkPair (c1 := [_]) e2 la2 lb2 (show Ow .bool _ [_] _ from rfl) (h2.up (Sb2.1 _ (.head _)))))
theorem openP_runRuns {m : Mem} {cs : List Value} {g : Nat} {x0 : Nat × DdiskDisk} {x1 : Bool} {x2 : List DRun} (h : Ow (.ptr TrunRuns) m cs (g, (x0, x1, x2))) : ∃ (E : TypeId), ∃ (A2 : Option Addr), ∃ (c2 : Nat), ∃ (n0 : Mem), ∃ (n2 : Mem), cs = [.pointer (some ⟨g, 0, none⟩)] ∧ Seps m [mone g (.cells [(.pointer (some ⟨x0.1, 0, none⟩) : Value), .bool x1, .slice A2 x2.length c2].toArray E (0, 0)), n0, n2] ∧ Ow (.ptr TdiskDisk) n0 [.pointer (some ⟨x0.1, 0, none⟩)] x0 ∧ Ow (.sl TRun) n2 [.slice A2 x2.length c2] x2 := by
  obtain ⟨rfl, rc, E, m1, hd, l0, l1, h1⟩ := Ow.opnP h
  obtain ⟨A2, c2, n0, n2, rfl, hS, f0, f2⟩ := openO_runRuns h1
  exact ⟨E, A2, c2, n0, n2, rfl, Seps.app hd l0 l1 (Seps.one (mle_refl _)) hS, f0, f2⟩
theorem mkP_runRuns {m : Mem} {g : Nat} {E : TypeId} {n0 n2 : Mem}{v0 : Value}{v2 : Value} (x0 : Nat × DdiskDisk) (x1 : Bool) (x2 : List DRun) (hS : Seps m [mone g (.cells [v0, .bool x1, v2].toArray E (0, 0)), n0, n2]) (h0 : Ow (.ptr TdiskDisk) n0 [v0] x0) (h2 : Ow (.sl TRun) n2 [v2] x2) : Ow (.ptr TrunRuns) m [.pointer (some ⟨g, 0, none⟩)] (g, (x0, x1, x2)) :=
  Ow.clsP hS fun hS => mkO_runRuns x0 x1 x2 hS h0 h2
abbrev DrunRuns0 := (Option Nat) × Bool × (List DRun)
theorem fnOk17 : fnOk Try.prog 17 = true := by kernel_rfl
theorem fnOk28 : fnOk Try.prog 28 = true := by kernel_rfl
theorem fnOk32 : fnOk Try.prog 32 = true := by kernel_rfl
theorem fnOk38 : fnOk Try.prog 38 = true := by kernel_rfl
theorem fnOk39 : fnOk Try.prog 39 = true := by kernel_rfl
theorem fnOk40 : fnOk Try.prog 40 = true := by kernel_rfl
theorem fnOk41 : fnOk Try.prog 41 = true := by kernel_rfl
theorem fnOk42 : fnOk Try.prog 42 = true := by kernel_rfl
theorem fnOk43 : fnOk Try.prog 43 = true := by kernel_rfl
theorem fnOk44 : fnOk Try.prog 44 = true := by kernel_rfl
theorem fnOk45 : fnOk Try.prog 45 = true := by kernel_rfl
theorem fnOk77 : fnOk Try.prog 77 = true := by kernel_rfl
theorem tk27 : tk Try.prog 27 = some none := by kernel_rfl
theorem tk47 : tk Try.prog 47 = some none := by kernel_rfl
theorem tst55 : tst Try.prog 55 = some [(0, 1), (1, 1), (2, 1)] := by kernel_rfl
theorem tz55 : tz Try.prog 55 = some [.pointer none, .bool false, .slice none 0 0] := by kernel_rfl
theorem uNone_ok (W : World) {l_ : List DRun} {br_ : Bool} {D_ : DdiskDisk} {gd_ : Nat} {m0 : Mem} (hm : mle (m0) (wm W)) {g0 : Nat} (h0 : Ow (.ptr TrunRuns) m0 [.pointer (some ⟨g0, 0, none⟩)] (g0, ((gd_, D_), br_, l_))) : CallR Try.prog 42 [.pointer (some ⟨g0, 0, none⟩)] W (m0) (fun v m' => v = .bool (decide (False)) ∧ Ow (.ptr TrunRuns) m' [.pointer (some ⟨g0, 0, none⟩)] (g0, ((gd_, D_), br_, l_))) := by
  refine CallR.ofB (n := 12) hm Try.func42 rfl rfl rfl ?_
  refine VC.rs ?_
  refine VO.as ?_
  refine VO.k2 0 2 ?_
  refine VC.rs ?_
  refine VO.mv ?_
  refine VO.y rfl (.pnil rfl rfl Try.underlying23 rfl) ?_
  refine VO.mv ?_
  refine VO.gy rfl ⟨_, rfl, rfl⟩ (.mv rfl) ?_
  refine VO.gy rfl ⟨_, rfl, rfl⟩ (.nilp rfl) ?_
  refine VO.gy rfl ⟨_, rfl, rfl⟩ (.fa rfl tst55 rfl) ?_
  obtain ⟨q1_E, q1_A2, q1_c2, q1_n0, q1_n2, _, q1_S, q1_0, q1_2⟩ := openP_runRuns (x0 := (gd_, D_)) (x1 := br_) (x2 := l_) h0
  dsimp only at q1_0
  have q1_r2 := q1_2.rm
  refine VO.inv _ (fun _ h => h.parts (i := 1) rfl q1_S [104, 102, 103]) ?_
  refine VO.gy rfl ⟨_, rfl, rfl⟩ (.ld1 104 rfl tk27 rfl (cellsAt_one rfl rfl)) ?_
  refine VO.gy rfl ⟨_, rfl, rfl⟩ (.pnil rfl rfl Try.underlying27 rfl) ?_
  refine VO.y rfl (.pF rfl rfl) ?_
  refine VO.as ?_
  refine VO.clsP 105 [104, 102, 103] rfl (fun hg5 => (mkP_runRuns (gd_, D_) br_ l_ hg5 q1_0 q1_2)) (fun mc5 ho5 => ?_)
  refine VO.k2 0 2 ?_
  refine VC.ret ?_
  refine ⟨_, _, res_run (rs := [.tmp 2]) rfl (.tmp rfl .nil), fun W_ hI => out_of (l := [mc5]) hI [105] rfl rfl (mle_refl _) (fun hS_ => ?_)⟩
  dsimp only [packV]
  have hm0_ : (((gd_, D_), br_, l_) : DrunRuns) = ((gd_, D_), br_, l_) := by first | rfl | (simp [*]; done)
  refine ⟨?_, ?_⟩
  rotate_left
  · rw [hm0_]; exact (Ow.up ho5 (hS_.1 _ (.head _)))
  all_goals (first | rfl | (simp [*]; done))
theorem uEnd_ok (W : World) {l_ : List DRun} {br_ : Bool} {D_ : DdiskDisk} {gd_ : Nat} {m0 : Mem} (hm : mle (m0) (wm W)) {g0 : Nat} (h0 : Ow (.ptr TrunRuns) m0 [.pointer (some ⟨g0, 0, none⟩)] (g0, ((gd_, D_), br_, l_))) (e0 : okU l_) : CallR Try.prog 28 [.pointer (some ⟨g0, 0, none⟩)] W (m0) (fun v m' => v = .int .i64 (endR l_) ∧ Ow (.ptr TrunRuns) m' [.pointer (some ⟨g0, 0, none⟩)] (g0, ((gd_, D_), br_, l_))) := by
  have hll := okU_len e0
  refine CallR.ofB (n := 26) hm Try.func28 rfl rfl rfl ?_
  refine VC.rs ?_
  refine VO.as ?_
  refine VO.k2 0 2 ?_
  refine VC.seq ?_
  refine VC.rs ?_
  refine VO.mv ?_
  refine VO.call 1 rfl fnOk42 rfl rfl (fun W hW => uNone_ok W (hW.at (i := 1) rfl) h0) (fun v1 m1 hv1 => ?_)
  try dsimp only at hv1
  obtain ⟨rfl, w1_0⟩ := hv1
  refine VO.mv ?_
  refine VO.dec (t := 5) rfl (fun hc2 => ?_) (fun hc2 => ?_)
  · -- T
    exact hc2.elim
  · -- F
    refine VO.gy rfl ⟨_, rfl, rfl⟩ (.mv rfl) ?_
    refine VO.gy rfl ⟨_, rfl, rfl⟩ (.nilp rfl) ?_
    refine VO.gy rfl ⟨_, rfl, rfl⟩ (.fa rfl tst55 rfl) ?_
    obtain ⟨q3_E, q3_A2, q3_c2, q3_n0, q3_n2, _, q3_S, q3_0, q3_2⟩ := openP_runRuns (x0 := (gd_, D_)) (x1 := br_) (x2 := l_) w1_0
    dsimp only at q3_0
    have q3_r2 := q3_2.rm
    refine VO.inv _ (fun _ h => h.parts (i := 1) rfl q3_S [106, 104, 105]) ?_
    refine VO.gy rfl ⟨_, rfl, rfl⟩ (.ld1 106 rfl tk47 rfl (cellsAt_one rfl rfl)) ?_
    refine VO.gy rfl ⟨_, rfl, rfl⟩ (.lenS rfl tsl47) ?_
    refine VO.gy rfl ⟨_, rfl, rfl⟩ (.eql rfl rfl) ?_
    refine VO.y rfl (.pF rfl rfl) ?_
    refine VO.clsP 107 [106, 104, 105] rfl (fun hg7 => (mkP_runRuns (gd_, D_) br_ l_ hg7 q3_0 q3_2)) (fun mc7 ho7 => ?_)
    refine VO.k3 0 2 12 ?_
    refine VC.cond rfl (fun hc8 => ?_) (fun hc8 => ?_)
    · -- FT
      refine VC.rs ?_
      refine VO.as ?_
      refine VO.kp [107, 0] [(107, mc7), (0, mout (wm W) (m0))] ?_
      refine VO.k3 0 2 12 ?_
      refine VC.ret ?_
      refine outR ?_
      refine ⟨_, _, res_run (rs := [.tmp 2]) rfl (.tmp rfl .nil), fun W_ hI => out_of (l := [mc7]) hI [107] rfl rfl (mle_refl _) (fun hS_ => ?_)⟩
      dsimp only [packV]
      have hm0_ : (((gd_, D_), br_, l_) : DrunRuns) = ((gd_, D_), br_, l_) := by first | rfl | (simp [*]; done)
      refine ⟨?_, ?_⟩
      rotate_left
      · rw [hm0_]; exact (Ow.up ho7 (hS_.1 _ (.head _)))
      all_goals (first | rfl | (first | exact congrArg (Value.int _) (endR_at ‹l_[_]? = some _› (by omega)).symm | exact congrArg (Value.int _) (endR_nil (by omega)).symm | exact congrArg (Value.int _) (endR_nil (not_not_intro (by assumption))).symm))
    · -- FF
      refine VC.skip ?_
      refine outN ?_
      refine VC.seq ?_
      obtain ⟨q9_E, q9_A2, q9_c2, q9_n0, q9_n2, _, q9_S, q9_0, q9_2⟩ := openP_runRuns (x0 := (gd_, D_)) (x1 := br_) (x2 := l_) ho7
      dsimp only at q9_0
      have q9_r2 := q9_2.rm
      refine VC.inv _ (fun _ h => h.parts (i := 107) rfl q9_S [112, 110, 111]) ?_
      refine VC.regD _ 10 [(0, true), (1, true), (2, true), (3, true), (4, true), (5, true), (6, true), (7, true), (8, true), (9, true)] follows (by kernel_rfl) (fun _ h => h.sub [112, 110, 111, 0]) ?_
      refine VD.y rfl rfl (.inl rfl) (.mv rfl) ?_
      refine VD.y rfl rfl (.inl rfl) (.nilp rfl) ?_
      refine VD.y rfl rfl (.inl rfl) (.fa rfl tst55 rfl) ?_
      refine VD.y rfl rfl (.inl rfl) (.ld1 112 rfl tk47 rfl (cellsAt_one rfl rfl)) ?_
      refine VD.y rfl rfl (.inl rfl) (.mv rfl) ?_
      refine VD.y rfl rfl (.inl rfl) (.nilp rfl) ?_
      refine VD.y rfl rfl (.inl rfl) (.fa rfl tst55 rfl) ?_
      refine VD.y rfl rfl (.inl rfl) (.ld1 112 rfl tk47 rfl (cellsAt_one rfl rfl)) ?_
      refine VD.y rfl rfl (.inl rfl) (.lenS rfl tsl47) ?_
      refine VD.y rfl rfl (.inl rfl) (.sub rfl rfl rfl ⟨bd, bd⟩) ?_
      refine VD.nil rfl ?_ rfl
      obtain ⟨x13, hx13⟩ : ∃ z_, (l_)[(((l_.length : Nat) : Int) - 1).toNat]? = some z_ := ⟨_, List.getElem?_eq_getElem bd⟩
      obtain ⟨gg13, oo13, ec13, ea13, hce13, hre13⟩ := (Ow.rd q9_2 (mle_refl _)).elem hx13
      cases ea13
      obtain ⟨q13_A2, q13_c2, rfl, q13_0, q13_1, q13_2⟩ := open_Run (x0 := x13.1) (x1 := x13.2.1) (x2 := x13.2.2) hre13
      simp only [inK] at q13_0
      simp only [inK] at q13_1
      have q13_r2 := Rd.room q13_2
      refine VO.y rfl (.ixI ((((l_.length : Nat) : Int) - 1).toNat) rfl rfl tsl47 bd bd) ?_
      refine VO.y rfl (.fa rfl tst32 rfl) ?_
      refine VO.y rfl (.ld1 111 rfl tk3 rfl (hce13.at1 (j := 1) rfl)) ?_
      refine VO.as ?_
      refine VO.clsP 114 [112, 110, 111] rfl (fun hg14 => (mkP_runRuns (gd_, D_) br_ l_ hg14 q9_0 q9_2)) (fun mc14 ho14 => ?_)
      refine VO.kp [114, 0] [(114, mc14), (0, mout (wm W) (m0))] ?_
      refine VO.k3 0 2 12 ?_
      refine outN ?_
      refine VC.ret ?_
      refine ⟨_, _, res_run (rs := [.tmp 2]) rfl (.tmp rfl .nil), fun W_ hI => out_of (l := [mc14]) hI [114] rfl rfl (mle_refl _) (fun hS_ => ?_)⟩
      dsimp only [packV]
      have hm0_ : (((gd_, D_), br_, l_) : DrunRuns) = ((gd_, D_), br_, l_) := by first | rfl | (simp [*]; done)
      refine ⟨?_, ?_⟩
      rotate_left
      · rw [hm0_]; exact (Ow.up ho14 (hS_.1 _ (.head _)))
      all_goals (first | rfl | (first | exact congrArg (Value.int _) (endR_at ‹l_[_]? = some _› (by omega)).symm | exact congrArg (Value.int _) (endR_nil (by omega)).symm | exact congrArg (Value.int _) (endR_nil (not_not_intro (by assumption))).symm))
theorem uCopied_ok (W : World) {v0 : List Value} {d0 : DRun} (h0 : Rd TRun (wm W) v0 d0) (e0 : d0.2.2.length ≤ 3518437208800) : CallR Try.prog 45 [.agg v0.toArray] W (mnil) (fun v m' => ∃ (s0 : List Value), v = .agg s0.toArray ∧ Ow TRun m' s0 (d0)) := by
  obtain ⟨p0_A2, p0_c2, rfl, p0_0, p0_1, p0_2⟩ := open_Run (x0 := d0.1) (x1 := d0.2.1) (x2 := d0.2.2) h0
  simp only [inK] at p0_0
  simp only [inK] at p0_1
  have p0_r2 := Rd.room p0_2
  refine CallR.ofA (n := 8) Try.func45 rfl rfl rfl ?_
  refine VC.rs ?_
  refine VO.box (cs := [Value.int .i64 (d0.1), Value.int .i64 (d0.2.1), Value.slice p0_A2 (d0.2.2.length) (p0_c2)]) 102 rfl rfl rfl (fun g1 => ?_)
  refine VO.alloc 104 rfl tz32 (fun g3 => ?_)
  refine VO.k3 0 1 2 ?_
  refine VC.rs ?_
  refine VO.y rfl (.fa rfl tst32 rfl) ?_
  refine VO.y rfl (.ld1 102 rfl tk30 rfl (cellsAt_one rfl rfl)) ?_
  refine VO.callN 105 rfl fnOk77 rfl (fun W hW => clone_ok W (Rd.mono p0_2 (hW.at (i := 0) rfl)) bd) (fun v5 m5 hv5 => ?_)
  obtain ⟨s5_0, rfl, f5_0⟩ := hv5
  obtain ⟨A5_0, c5_0, eq5_0, l5_0, k5_0⟩ := f5_0.slice
  subst eq5_0
  simp only [maxLen] at k5_0
  refine VO.y rfl (.fa rfl tst32 rfl) ?_
  refine VO.store (k := 1) (c' := [Value.int .i64 (d0.1), Value.int .i64 (d0.2.1), Value.slice A5_0 (d0.2.2.length) (c5_0)]) 102 rfl rfl (.inr ⟨tk30, rfl⟩) rfl rfl rfl rfl rfl ?_
  refine VO.k3 0 1 2 ?_
  refine VC.rs ?_
  refine VO.y rfl (.ldA 102 rfl tk32 rfl (cellsAt_one rfl rfl)) ?_
  refine VO.store (k := 3) (c' := [Value.int .i64 (d0.1), Value.int .i64 (d0.2.1), Value.slice A5_0 (d0.2.2.length) (c5_0)]) 104 rfl rfl (.inl tk32) rfl rfl rfl rfl rfl ?_
  refine VO.kp [105, 104, 102, 0] [(105, m5), (104, mone g3 (.cells [Value.int .i64 (d0.1), Value.int .i64 (d0.2.1), Value.slice A5_0 (d0.2.2.length) (c5_0)].toArray 32 (0, 0))), (102, mone g1 (.cells [Value.int .i64 (d0.1), Value.int .i64 (d0.2.1), Value.slice A5_0 (d0.2.2.length) (c5_0)].toArray 32 (0, 0))), (0, wm W)] ?_
  refine VO.k3 0 1 2 ?_
  refine VC.ret ?_
  refine ⟨_, _, res_run (rs := [.cell 2 32]) rfl (.agg 104 rfl tk32 rfl ⟨_, _, _, mone_self _ _, Nat.le_of_ble_eq_true rfl, rfl⟩ .nil), fun W_ hI => out_of (l := [m5]) hI [105] rfl rfl (mle_refl _) (fun hS_ => ?_)⟩
  dsimp only [packV]
  have he0 : (d0 : Ty.Den TRun) = d0 := by first | rfl | (simp [*]; done)
  refine ⟨[Value.int .i64 (d0.1), Value.int .i64 (d0.2.1), Value.slice A5_0 (d0.2.2.length) (c5_0)], ?_, ?_⟩
  rotate_left
  · rw [he0]; exact (show Ow TRun _ _ d0 from (mkO_Run d0.1 d0.2.1 d0.2.2 hS_ bdk bdk (OwnL.ow (Ow.ownl f5_0 rfl mnil) rfl)))
  all_goals (first | rfl | (simp [*]; done))
theorem fin0_uFlush_ok {P : Prop} (h : P := by first | (rw [flush_off (.inl (by assumption))] <;> first | rfl | done) | (rw [flush_off (.inr (by assumption))] <;> first | rfl | done) | (rw [flush_enc (by rintro (q_ | q_) <;> first | exact absurd (q_.symm.trans ‹br_ = false›) (by decide) | exact q_ (by assumption) | exact absurd q_ (by assumption) | simp_all) (by assumption)] <;> first | rfl | done) | (rw [flush_order (by rintro (q_ | q_) <;> first | exact absurd (q_.symm.trans ‹br_ = false›) (by decide) | exact q_ (by assumption) | exact absurd q_ (by assumption) | simp_all) (by assumption) (by assumption)] <;> first | rfl | done) | (rw [flush_write (by rintro (q_ | q_) <;> first | exact absurd (q_.symm.trans ‹br_ = false›) (by decide) | exact q_ (by assumption) | exact absurd q_ (by assumption) | simp_all) (by assumption) (by assumption) (by assumption)] <;> first | rfl | done) | (rw [flush_sync (by rintro (q_ | q_) <;> first | exact absurd (q_.symm.trans ‹br_ = false›) (by decide) | exact q_ (by assumption) | exact absurd q_ (by assumption) | simp_all) (by assumption) (by assumption) (by assumption) (by assumption)] <;> first | rfl | done) | (rw [flush_good (by rintro (q_ | q_) <;> first | exact absurd (q_.symm.trans ‹br_ = false›) (by decide) | exact q_ (by assumption) | exact absurd q_ (by assumption) | simp_all) (by assumption) (by assumption) (by assumption) (by assumption)] <;> first | rfl | done)) : P := h
theorem fin1_uFlush_ok {P : Prop} (h : P := by first | omega | (simp only [List.length_append, List.length_nil, List.length_cons, List.length_take, List.length_drop] at *; omega) | (have h_ := runCheck_ok (enc_zero ‹¬ ¬ (runEncode d1).2 = 0›).1; omega) | (have h_ := enc_flen ‹¬ ¬ (runEncode d1).2 = 0›; omega) | (have h_ := write_rng D_ 2 (fAppend [] (runEncode d1).1).1; omega)) : P := h
set_option maxHeartbeats 4000000 in
theorem uFlush_ok (W : World) {l_ : List DRun} {br_ : Bool} {D_ : DdiskDisk} {gd_ : Nat} {m0 : Mem} (hm : mle (m0) (wm W)) {g0 : Nat} (h0 : Ow (.ptr TrunRuns) m0 [.pointer (some ⟨g0, 0, none⟩)] (g0, ((gd_, D_), br_, l_))) {v1 : List Value} {d1 : DRun} (h1 : Rd TRun (mout (wm W) (m0)) v1 d1) (e0 : okD D_) (e1 : wD D_ + 200000 ≤ 1000000000000) (e2 : okU l_) : CallR Try.prog 11 [.pointer (some ⟨g0, 0, none⟩), .agg v1.toArray] W (m0) (fun v m' => v = .int .i64 ((uFlush D_ br_ l_ d1).2) ∧ Ow (.ptr TrunRuns) m' [.pointer (some ⟨g0, 0, none⟩)] (g0, ((gd_, (uFlush D_ br_ l_ d1).1.1), (uFlush D_ br_ l_ d1).1.2))) := by
  have hll := okU_len e2
  obtain ⟨p1_A2, p1_c2, rfl, p1_0, p1_1, p1_2⟩ := open_Run (x0 := d1.1) (x1 := d1.2.1) (x2 := d1.2.2) h1
  simp only [inK] at p1_0
  simp only [inK] at p1_1
  have p1_r2 := Rd.room p1_2
  refine CallR.ofB (n := 76) hm Try.func11 rfl rfl rfl ?_
  refine VC.rs ?_
  refine VO.box (cs := [Value.int .i64 (d1.1), Value.int .i64 (d1.2.1), Value.slice p1_A2 (d1.2.2.length) (p1_c2)]) 102 rfl rfl rfl (fun g1 => ?_)
  refine VO.as ?_
  refine VO.k4 0 1 3 4 ?_
  refine VC.seq ?_
  refine VC.rs ?_
  refine VO.mv ?_
  refine VO.call 1 rfl fnOk42 rfl rfl (fun W hW => uNone_ok W (hW.at (i := 1) rfl) h0) (fun v3 m3 hv3 => ?_)
  try dsimp only at hv3
  obtain ⟨rfl, w3_0⟩ := hv3
  refine VO.k5 0 1 3 4 9 ?_
  refine VC.cond rfl (fun hc4 => ?_) (fun hc4 => ?_)
  · -- T
    exact hc4.elim
  · -- F
    refine VC.skip ?_
    refine outN ?_
    refine VC.seq ?_
    refine VC.rs ?_
    refine VO.mv ?_
    refine VO.y rfl (.nilp rfl) ?_
    refine VO.y rfl (.fa rfl tst55 rfl) ?_
    obtain ⟨q5_E, q5_A2, q5_c2, q5_n0, q5_n2, _, q5_S, q5_0, q5_2⟩ := openP_runRuns (x0 := (gd_, D_)) (x1 := br_) (x2 := l_) w3_0
    dsimp only at q5_0
    have q5_r2 := q5_2.rm
    refine VO.inv _ (fun _ h => h.parts (i := 1) rfl q5_S [108, 106, 107]) ?_
    refine VO.y rfl (.ld1 108 rfl tk4 rfl (cellsAt_one rfl rfl)) ?_
    refine VO.mv ?_
    refine VO.decB (t := 14) rfl (fun hc9 => ?_) (fun hc9 => ?_)
    · -- FT
      refine VO.gN ?_
      refine VO.gN ?_
      refine VO.gN ?_
      refine VO.gN ?_
      refine VO.gN ?_
      refine VO.gN ?_
      refine VO.y rfl (.pT rfl rfl) ?_
      refine VO.clsP 110 [108, 106, 107] rfl (fun hg10 => (mkP_runRuns (gd_, D_) br_ l_ hg10 q5_0 q5_2)) (fun mc10 ho10 => ?_)
      refine VO.kp [110, 102, 0] [(110, mc10), (102, mone g1 (.cells [Value.int .i64 (d1.1), Value.int .i64 (d1.2.1), Value.slice p1_A2 (d1.2.2.length) (p1_c2)].toArray 32 (0, 0))), (0, mout (wm W) (m0))] ?_
      refine VO.k6 0 1 3 4 9 21 ?_
      refine VC.condT rfl ?_
      refine VC.rs ?_
      refine VO.mv ?_
      refine VO.y rfl (.nilp rfl) ?_
      refine VO.y rfl (.fa rfl tst55 rfl) ?_
      obtain ⟨q11_E, q11_A2, q11_c2, q11_n0, q11_n2, _, q11_S, q11_0, q11_2⟩ := openP_runRuns (x0 := (gd_, D_)) (x1 := br_) (x2 := l_) ho10
      dsimp only at q11_0
      have q11_r2 := q11_2.rm
      refine VO.inv _ (fun _ h => h.parts (i := 110) rfl q11_S [114, 112, 113]) ?_
      refine VO.store (k := 1) (c' := [Value.pointer (some ⟨gd_, 0, none⟩), Value.bool true, Value.slice q11_A2 (l_.length) (q11_c2)]) 114 rfl rfl (.inr ⟨tk4, rfl⟩) rfl rfl rfl rfl rfl ?_
      refine VO.clsP 115 [114, 112, 113] rfl (fun hg15 => (mkP_runRuns (gd_, D_) true l_ hg15 q11_0 q11_2)) (fun mc15 ho15 => ?_)
      refine VO.k6 0 1 3 4 9 21 ?_
      refine VC.rs ?_
      refine VO.as ?_
      refine VO.k6 0 1 3 4 9 21 ?_
      refine VC.ret ?_
      refine outR ?_
      refine ⟨_, _, res_run (rs := [.tmp 4]) rfl (.tmp rfl .nil), fun W_ hI => out_of (l := [mc15]) hI [115] rfl rfl (mle_refl _) (fun hS_ => ?_)⟩
      dsimp only [packV]
      have hm0_ : (((gd_, (uFlush D_ br_ l_ d1).1.1), (uFlush D_ br_ l_ d1).1.2) : DrunRuns) = ((gd_, D_), true, l_) := by first | rfl | (exact fin0_uFlush_ok)
      refine ⟨?_, ?_⟩
      rotate_left
      · rw [hm0_]; exact (Ow.up ho15 (hS_.1 _ (.head _)))
      all_goals (first | rfl | (exact fin0_uFlush_ok))
    · -- FF
      refine VO.gy rfl ⟨_, rfl, rfl⟩ (.mv rfl) ?_
      refine VO.gy rfl ⟨_, rfl, rfl⟩ (.nilp rfl) ?_
      refine VO.gy rfl ⟨_, rfl, rfl⟩ (.fa rfl tst55 rfl) ?_
      refine VO.gy rfl ⟨_, rfl, rfl⟩ (.ld1 108 rfl tk27 rfl (cellsAt_one rfl rfl)) ?_
      refine VO.gcall 106 rfl ⟨_, rfl, rfl⟩ fnOk32 rfl rfl (fun W hW => dOn_ok W (hW.at (i := 106) rfl) q5_0) (fun v16 m16 hv16 => ?_)
      obtain ⟨rfl, w16_0⟩ := hv16
      refine VO.gy rfl ⟨_, rfl, rfl⟩ (.notD rfl) ?_
      refine VO.y rfl (.pF rfl rfl) ?_
      refine VO.clsP 117 [108, 106, 107] rfl (fun hg17 => (mkP_runRuns (gd_, D_) br_ l_ hg17 w16_0 q5_2)) (fun mc17 ho17 => ?_)
      refine VO.kp [117, 102, 0] [(117, mc17), (102, mone g1 (.cells [Value.int .i64 (d1.1), Value.int .i64 (d1.2.1), Value.slice p1_A2 (d1.2.2.length) (p1_c2)].toArray 32 (0, 0))), (0, mout (wm W) (m0))] ?_
      refine VO.k6 0 1 3 4 9 21 ?_
      refine VC.cond rfl (fun hc18 => ?_) (fun hc18 => ?_)
      · -- FFT
        refine VC.rs ?_
        refine VO.mv ?_
        refine VO.y rfl (.nilp rfl) ?_
        refine VO.y rfl (.fa rfl tst55 rfl) ?_
        obtain ⟨q19_E, q19_A2, q19_c2, q19_n0, q19_n2, _, q19_S, q19_0, q19_2⟩ := openP_runRuns (x0 := (gd_, D_)) (x1 := br_) (x2 := l_) ho17
        dsimp only at q19_0
        have q19_r2 := q19_2.rm
        refine VO.inv _ (fun _ h => h.parts (i := 117) rfl q19_S [122, 120, 121]) ?_
        refine VO.store (k := 1) (c' := [Value.pointer (some ⟨gd_, 0, none⟩), Value.bool true, Value.slice q19_A2 (l_.length) (q19_c2)]) 122 rfl rfl (.inr ⟨tk4, rfl⟩) rfl rfl rfl rfl rfl ?_
        refine VO.clsP 123 [122, 120, 121] rfl (fun hg23 => (mkP_runRuns (gd_, D_) true l_ hg23 q19_0 q19_2)) (fun mc23 ho23 => ?_)
        refine VO.k6 0 1 3 4 9 21 ?_
        refine VC.rs ?_
        refine VO.as ?_
        refine VO.k6 0 1 3 4 9 21 ?_
        refine VC.ret ?_
        refine outR ?_
        refine ⟨_, _, res_run (rs := [.tmp 4]) rfl (.tmp rfl .nil), fun W_ hI => out_of (l := [mc23]) hI [123] rfl rfl (mle_refl _) (fun hS_ => ?_)⟩
        dsimp only [packV]
        have hm0_ : (((gd_, (uFlush D_ br_ l_ d1).1.1), (uFlush D_ br_ l_ d1).1.2) : DrunRuns) = ((gd_, D_), true, l_) := by first | rfl | (exact fin0_uFlush_ok)
        refine ⟨?_, ?_⟩
        rotate_left
        · rw [hm0_]; exact (Ow.up ho23 (hS_.1 _ (.head _)))
        all_goals (first | rfl | (exact fin0_uFlush_ok))
      · -- FFF
        refine VC.skip ?_
        refine outN ?_
        refine VC.rs ?_
        refine VO.y rfl (.ldA 102 rfl tk32 rfl (cellsAt_one rfl rfl)) ?_
        refine VO.callN 124 rfl fnOk17 rfl (fun W hW => runEncode_ok W (Rd.mono h1 (hW.at (i := 0) rfl))) (fun v24 m24 hv24 => ?_)
        obtain ⟨s24_0, rfl, f24_0⟩ := hv24
        have hfa25 := runEncode_len d1
        obtain ⟨A24_0, c24_0, eq24_0, l24_0, k24_0⟩ := f24_0.slice
        subst eq24_0
        simp only [maxLen] at k24_0
        refine VO.mv ?_
        refine VO.y rfl (.ext rfl rfl) ?_
        refine VO.y rfl (.ext rfl rfl) ?_
        refine VO.as ?_
        refine VO.as ?_
        refine VO.k8 0 1 3 4 5 6 9 21 ?_
        refine VC.seq ?_
        refine VC.rs ?_
        refine VO.mv ?_
        refine VO.y rfl (.neq rfl rfl) ?_
        refine VO.k9 0 1 3 4 5 6 9 21 31 ?_
        refine VC.cond rfl (fun hc26 => ?_) (fun hc26 => ?_)
        · -- FFFT
          refine VC.rs ?_
          refine VO.mv ?_
          refine VO.as ?_
          refine VO.kp [124, 117, 102, 0] [(124, m24), (117, mc17), (102, mone g1 (.cells [Value.int .i64 (d1.1), Value.int .i64 (d1.2.1), Value.slice p1_A2 (d1.2.2.length) (p1_c2)].toArray 32 (0, 0))), (0, mout (wm W) (m0))] ?_
          refine VO.k9 0 1 3 4 5 6 9 21 31 ?_
          refine VC.ret ?_
          refine outR ?_
          refine ⟨_, _, res_run (rs := [.tmp 4]) rfl (.tmp rfl .nil), fun W_ hI => out_of (l := [mc17]) hI [117] rfl rfl (mle_refl _) (fun hS_ => ?_)⟩
          dsimp only [packV]
          have hm0_ : (((gd_, (uFlush D_ br_ l_ d1).1.1), (uFlush D_ br_ l_ d1).1.2) : DrunRuns) = ((gd_, D_), br_, l_) := by first | rfl | (exact fin0_uFlush_ok)
          refine ⟨?_, ?_⟩
          rotate_left
          · rw [hm0_]; exact (Ow.up ho17 (hS_.1 _ (.head _)))
          all_goals (first | rfl | (exact fin0_uFlush_ok))
        · -- FFFF
          refine VC.skip ?_
          refine outN ?_
          refine VC.seq ?_
          refine VC.seq ?_
          refine VC.regD _ 5 [(0, true), (1, true), (2, true), (3, false), (4, true)] follows (by kernel_rfl) (fun _ h => h.sub [124, 102, 0]) ?_
          refine VD.y rfl rfl (.inl rfl) (.fa rfl tst32 rfl) ?_
          refine VD.y rfl rfl (.inl rfl) (.ld1 102 rfl tk3 rfl (cellsAt_one rfl rfl)) ?_
          refine VD.y rfl rfl (.inl rfl) (.mv rfl) ?_
          refine VD.call 117 rfl rfl (.inl rfl) fnOk28 rfl rfl (fun _ _ h => h.sub [124, 102, 0]) (fun W hW => uEnd_ok W (hW.at (i := 117) rfl) ho17 (by assumption)) (fun v27 m27 hv27 => ?_)
          try dsimp only at hv27
          obtain ⟨rfl, w27_0⟩ := hv27
          refine VD.y rfl rfl (.inl rfl) (.add rfl rfl rfl ⟨by exact fin1_uFlush_ok, by exact fin1_uFlush_ok⟩) ?_
          refine VD.nil rfl ?_ rfl
          refine VO.y rfl (.neq rfl rfl) ?_
          refine VO.kp [117, 124, 102, 0] [(117, m27), (124, m24), (102, mone g1 (.cells [Value.int .i64 (d1.1), Value.int .i64 (d1.2.1), Value.slice p1_A2 (d1.2.2.length) (p1_c2)].toArray 32 (0, 0))), (0, mout (wm W) (m0))] ?_
          refine VO.k10 0 1 3 4 5 6 9 21 31 38 ?_
          refine outN ?_
          refine VC.cond rfl (fun hc28 => ?_) (fun hc28 => ?_)
          · -- FFFFT
            refine VC.rs ?_
            refine VO.as ?_
            refine VO.k10 0 1 3 4 5 6 9 21 31 38 ?_
            refine VC.ret ?_
            refine outR ?_
            refine ⟨_, _, res_run (rs := [.tmp 4]) rfl (.tmp rfl .nil), fun W_ hI => out_of (l := [m27]) hI [117] rfl rfl (mle_refl _) (fun hS_ => ?_)⟩
            dsimp only [packV]
            have hm0_ : (((gd_, (uFlush D_ br_ l_ d1).1.1), (uFlush D_ br_ l_ d1).1.2) : DrunRuns) = ((gd_, D_), br_, l_) := by first | rfl | (exact fin0_uFlush_ok)
            refine ⟨?_, ?_⟩
            rotate_left
            · rw [hm0_]; exact (Ow.up w27_0 (hS_.1 _ (.head _)))
            all_goals (first | rfl | (exact fin0_uFlush_ok))
          · -- FFFFF
            refine VC.skip ?_
            refine outN ?_
            refine VC.rs ?_
            refine VO.mv ?_
            refine VO.callN 129 rfl fnOk43 rfl (fun W hW => fAppend_ok W (Rd.nil _ _ none 0 (Nat.zero_le _)) (OwnL.rd (Ow.ownl f24_0 rfl mnil) (hW.at (i := 124) rfl) (mle_nil _)) (by exact fin1_uFlush_ok)) (fun v29 m29 hv29 => ?_)
            obtain ⟨s29_0, rfl, f29_0⟩ := hv29
            have hfa30 := fAppend_len [] ((runEncode d1).1)
            have hfa31 := fAppend_range [] ((runEncode d1).1)
            obtain ⟨A29_0, c29_0, eq29_0, l29_0, k29_0⟩ := f29_0.slice
            subst eq29_0
            simp only [maxLen] at k29_0
            refine VO.mv ?_
            refine VO.y rfl (.ext rfl rfl) ?_
            refine VO.y rfl (.ext rfl rfl) ?_
            refine VO.as ?_
            refine VO.as ?_
            refine VO.k11 0 1 3 4 5 6 7 9 21 31 38 ?_
            refine VC.seq ?_
            refine VC.rs ?_
            refine VO.mv ?_
            refine VO.y rfl (.eql rfl rfl) ?_
            refine VO.k12 0 1 3 4 5 6 7 9 21 31 38 45 ?_
            refine VC.cond rfl (fun hc32 => ?_) (fun hc32 => ?_)
            · -- FFFFFT
              refine VC.reg ?_
              refine VO.mv ?_
              refine VO.y rfl (.nilp rfl) ?_
              refine VO.y rfl (.fa rfl tst55 rfl) ?_
              obtain ⟨q33_E, q33_A2, q33_c2, q33_n0, q33_n2, _, q33_S, q33_0, q33_2⟩ := openP_runRuns (x0 := (gd_, D_)) (x1 := br_) (x2 := l_) w27_0
              dsimp only at q33_0
              have q33_r2 := q33_2.rm
              refine VO.inv _ (fun _ h => h.parts (i := 117) rfl q33_S [136, 134, 135]) ?_
              refine VO.y rfl (.ld1 136 rfl tk27 rfl (cellsAt_one rfl rfl)) ?_
              refine VO.mv ?_
              refine VO.call 134 rfl fnOk44 rfl rfl (fun W hW => dWrite_ok W (hW.at (i := 134) rfl) q33_0 2 (by simp only [inK]; (exact fin1_uFlush_ok)) (OwnL.rd (Ow.ownl f29_0 rfl mnil) (hW.out (i := 134) (j := 129) rfl rfl) (mle_nil _)) (by assumption) (by exact fin1_uFlush_ok)) (fun v37 m37 hv37 => ?_)
              obtain ⟨rfl, w37_0⟩ := hv37
              have hfa38 := (write_ok (f := 2) (b := ((fAppend [] ((runEncode d1).1)).1)) (show okD D_ by assumption))
              have hfa39 := (write_w (f := 2) (b := ((fAppend [] ((runEncode d1).1)).1)) (show okD D_ by assumption))
              refine VO.as ?_
              refine VO.clsP 140 [136, 134, 135] rfl (fun hg40 => (mkP_runRuns (gd_, (dWrite D_ 2 ((fAppend [] ((runEncode d1).1)).1)).1) br_ l_ hg40 w37_0 q33_2)) (fun mc40 ho40 => ?_)
              refine VO.kp [140, 129, 124, 102, 0] [(140, mc40), (129, m29), (124, m24), (102, mone g1 (.cells [Value.int .i64 (d1.1), Value.int .i64 (d1.2.1), Value.slice p1_A2 (d1.2.2.length) (p1_c2)].toArray 32 (0, 0))), (0, mout (wm W) (m0))] ?_
              refine VO.k12 0 1 3 4 5 6 7 9 21 31 38 45 ?_
              refine outN ?_
              refine VC.seq ?_
              refine VC.rs ?_
              refine VO.mv ?_
              refine VO.y rfl (.eql rfl rfl) ?_
              refine VO.k13 0 1 3 4 5 6 7 9 21 31 38 45 53 ?_
              refine VC.cond rfl (fun hc41 => ?_) (fun hc41 => ?_)
              · -- FFFFFTT
                refine VC.reg ?_
                refine VO.mv ?_
                refine VO.y rfl (.nilp rfl) ?_
                refine VO.y rfl (.fa rfl tst55 rfl) ?_
                obtain ⟨q42_E, q42_A2, q42_c2, q42_n0, q42_n2, _, q42_S, q42_0, q42_2⟩ := openP_runRuns (x0 := (gd_, (dWrite D_ 2 ((fAppend [] ((runEncode d1).1)).1)).1)) (x1 := br_) (x2 := l_) ho40
                dsimp only at q42_0
                have q42_r2 := q42_2.rm
                refine VO.inv _ (fun _ h => h.parts (i := 140) rfl q42_S [145, 143, 144]) ?_
                refine VO.y rfl (.ld1 145 rfl tk27 rfl (cellsAt_one rfl rfl)) ?_
                refine VO.call 143 rfl fnOk41 rfl rfl (fun W hW => dSync_ok W (hW.at (i := 143) rfl) q42_0 (by assumption) (by exact fin1_uFlush_ok)) (fun v46 m46 hv46 => ?_)
                obtain ⟨rfl, w46_0⟩ := hv46
                have hfa47 := (sync_ok (show okD ((dWrite D_ 2 ((fAppend [] ((runEncode d1).1)).1)).1) by assumption))
                have hfa48 := (sync_w (show okD ((dWrite D_ 2 ((fAppend [] ((runEncode d1).1)).1)).1) by assumption))
                refine VO.as ?_
                refine VO.clsP 149 [145, 143, 144] rfl (fun hg49 => (mkP_runRuns (gd_, (dSync ((dWrite D_ 2 ((fAppend [] ((runEncode d1).1)).1)).1)).1) br_ l_ hg49 w46_0 q42_2)) (fun mc49 ho49 => ?_)
                refine VO.k13 0 1 3 4 5 6 7 9 21 31 38 45 53 ?_
                refine outN ?_
                refine VC.seq ?_
                refine VC.rs ?_
                refine VO.mv ?_
                refine VO.y rfl (.neq rfl rfl) ?_
                refine VO.kp [149, 129, 124, 102, 0] [(149, mc49), (129, m29), (124, m24), (102, mone g1 (.cells [Value.int .i64 (d1.1), Value.int .i64 (d1.2.1), Value.slice p1_A2 (d1.2.2.length) (p1_c2)].toArray 32 (0, 0))), (0, mout (wm W) (m0))] ?_
                refine VO.k14 0 1 3 4 5 6 7 9 21 31 38 45 53 60 ?_
                refine VC.cond rfl (fun hc50 => ?_) (fun hc50 => ?_)
                · -- FFFFFTTT
                  refine VC.rs ?_
                  refine VO.mv ?_
                  refine VO.y rfl (.nilp rfl) ?_
                  refine VO.y rfl (.fa rfl tst55 rfl) ?_
                  obtain ⟨q51_E, q51_A2, q51_c2, q51_n0, q51_n2, _, q51_S, q51_0, q51_2⟩ := openP_runRuns (x0 := (gd_, (dSync ((dWrite D_ 2 ((fAppend [] ((runEncode d1).1)).1)).1)).1)) (x1 := br_) (x2 := l_) ho49
                  dsimp only at q51_0
                  have q51_r2 := q51_2.rm
                  refine VO.inv _ (fun _ h => h.parts (i := 149) rfl q51_S [154, 152, 153]) ?_
                  refine VO.store (k := 1) (c' := [Value.pointer (some ⟨gd_, 0, none⟩), Value.bool true, Value.slice q51_A2 (l_.length) (q51_c2)]) 154 rfl rfl (.inr ⟨tk4, rfl⟩) rfl rfl rfl rfl rfl ?_
                  refine VO.clsP 155 [154, 152, 153] rfl (fun hg55 => (mkP_runRuns (gd_, (dSync ((dWrite D_ 2 ((fAppend [] ((runEncode d1).1)).1)).1)).1) true l_ hg55 q51_0 q51_2)) (fun mc55 ho55 => ?_)
                  refine VO.k14 0 1 3 4 5 6 7 9 21 31 38 45 53 60 ?_
                  refine VC.rs ?_
                  refine VO.mv ?_
                  refine VO.as ?_
                  refine VO.k14 0 1 3 4 5 6 7 9 21 31 38 45 53 60 ?_
                  refine VC.ret ?_
                  refine outR ?_
                  refine ⟨_, _, res_run (rs := [.tmp 4]) rfl (.tmp rfl .nil), fun W_ hI => out_of (l := [mc55]) hI [155] rfl rfl (mle_refl _) (fun hS_ => ?_)⟩
                  dsimp only [packV]
                  have hm0_ : (((gd_, (uFlush D_ br_ l_ d1).1.1), (uFlush D_ br_ l_ d1).1.2) : DrunRuns) = ((gd_, (dSync ((dWrite D_ 2 ((fAppend [] ((runEncode d1).1)).1)).1)).1), true, l_) := by first | rfl | (exact fin0_uFlush_ok)
                  refine ⟨?_, ?_⟩
                  rotate_left
                  · rw [hm0_]; exact (Ow.up ho55 (hS_.1 _ (.head _)))
                  all_goals (first | rfl | (exact fin0_uFlush_ok))
                · -- FFFFFTTF
                  refine VC.skip ?_
                  refine outN ?_
                  refine VC.seq ?_
                  obtain ⟨q56_E, q56_A2, q56_c2, q56_n0, q56_n2, _, q56_S, q56_0, q56_2⟩ := openP_runRuns (x0 := (gd_, (dSync ((dWrite D_ 2 ((fAppend [] ((runEncode d1).1)).1)).1)).1)) (x1 := br_) (x2 := l_) ho49
                  dsimp only at q56_0
                  have q56_r2 := q56_2.rm
                  refine VC.inv _ (fun _ h => h.parts (i := 149) rfl q56_S [159, 157, 158]) ?_
                  refine VC.regD _ 9 [(0, true), (1, true), (2, true), (3, true), (4, true), (5, true), (6, false), (7, false), (8, false)] follows (by kernel_rfl) (fun _ h => h.sub [159, 157, 129, 124, 102, 0]) ?_
                  refine VD.y rfl rfl (.inl rfl) (.mv rfl) ?_
                  refine VD.y rfl rfl (.inl rfl) (.mv rfl) ?_
                  refine VD.y rfl rfl (.inl rfl) (.nilp rfl) ?_
                  refine VD.y rfl rfl (.inl rfl) (.fa rfl tst55 rfl) ?_
                  refine VD.y rfl rfl (.inl rfl) (.ld1 159 rfl tk47 rfl (cellsAt_one rfl rfl)) ?_
                  refine VD.y rfl rfl (.inl rfl) (.ldA 102 rfl tk32 rfl (cellsAt_one rfl rfl)) ?_
                  refine VD.callN 160 rfl rfl (.inl rfl) fnOk45 rfl (fun _ h => h.sub [159, 157, 129, 124, 102, 0]) (fun W hW => uCopied_ok W (Rd.mono h1 (hW.at (i := 0) rfl)) (by exact fin1_uFlush_ok)) (fun v60 m60 hv60 => ?_)
                  obtain ⟨s60_0, rfl, f60_0⟩ := hv60
                  obtain ⟨q60_0_A2, q60_0_c2, q60_0_n2, rfl, q60_0_S, q60_0_0, q60_0_1, q60_0_2⟩ := openO_Run (x0 := d1.1) (x1 := d1.2.1) (x2 := d1.2.2) f60_0
                  simp only [inK] at q60_0_0
                  simp only [inK] at q60_0_1
                  have q60_0_r2 := q60_0_2.rm
                  refine VD.inv _ (fun _ h => h.parts (i := 160) rfl q60_0_S [161]) ?_
                  refine VD.bsl (cs := [Value.int .i64 (d1.1), Value.int .i64 (d1.2.1), Value.slice q60_0_A2 (d1.2.2.length) (q60_0_c2)]) 163 rfl rfl rfl tsl47 tz32 rfl rfl (fun _ h => h.sub [159, 157, 129, 124, 102, 0]) (fun g62 => ?_)
                  refine VD.appO (e := TRun) 158 161 163 rfl rfl rfl rfl tsl47 tz32 rfl rfl rfl rfl q56_2 (show Ow TRun _ _ d1 from (mkO_Run d1.1 d1.2.1 d1.2.2 (Seps.one (mle_refl _)) (by simp only [inK]; (exact fin1_uFlush_ok)) (by simp only [inK]; (exact fin1_uFlush_ok)) (OwnL.ow (Ow.ownl q60_0_2 rfl mnil) rfl))) Try.underlying47 (cellsAt_one rfl rfl) (by simp only [maxLen]; (exact fin1_uFlush_ok)) (by exact fin1_uFlush_ok) (by decide) (fun _ _ h => h.sub [159, 157, 129, 124, 102, 0]) (fun v64 m64 ho64 => ?_)
                  obtain ⟨A64, c64, rfl, l64, k64⟩ := ho64.slice
                  simp only [maxLen] at k64
                  refine VD.nil rfl ?_ rfl
                  refine VO.y rfl (.nilp rfl) ?_
                  refine VO.y rfl (.fa rfl tst55 rfl) ?_
                  refine VO.store (k := 1) (c' := [Value.pointer (some ⟨gd_, 0, none⟩), Value.bool br_, Value.slice A64 ((l_ ++ [d1]).length) (c64)]) 159 rfl rfl (.inr ⟨tk47, rfl⟩) rfl rfl rfl rfl rfl ?_
                  refine VO.clsP 165 [159, 157, 158] rfl (fun hg65 => (mkP_runRuns (gd_, (dSync ((dWrite D_ 2 ((fAppend [] ((runEncode d1).1)).1)).1)).1) br_ (l_ ++ [d1]) hg65 q56_0 ho64)) (fun mc65 ho65 => ?_)
                  refine VO.k14 0 1 3 4 5 6 7 9 21 31 38 45 53 60 ?_
                  refine outN ?_
                  refine VC.rs ?_
                  refine VO.as ?_
                  refine VO.k14 0 1 3 4 5 6 7 9 21 31 38 45 53 60 ?_
                  refine VC.ret ?_
                  refine ⟨_, _, res_run (rs := [.tmp 4]) rfl (.tmp rfl .nil), fun W_ hI => out_of (l := [mc65]) hI [165] rfl rfl (mle_refl _) (fun hS_ => ?_)⟩
                  dsimp only [packV]
                  have hm0_ : (((gd_, (uFlush D_ br_ l_ d1).1.1), (uFlush D_ br_ l_ d1).1.2) : DrunRuns) = ((gd_, (dSync ((dWrite D_ 2 ((fAppend [] ((runEncode d1).1)).1)).1)).1), br_, l_ ++ [d1]) := by first | rfl | (exact fin0_uFlush_ok)
                  refine ⟨?_, ?_⟩
                  rotate_left
                  · rw [hm0_]; exact (Ow.up ho65 (hS_.1 _ (.head _)))
                  all_goals (first | rfl | (exact fin0_uFlush_ok))
              · -- FFFFFTF
                refine VC.skip ?_
                refine outN ?_
                refine VC.seq ?_
                refine VC.rs ?_
                refine VO.mv ?_
                refine VO.y rfl (.neq rfl rfl) ?_
                refine VO.k14 0 1 3 4 5 6 7 9 21 31 38 45 53 60 ?_
                refine VC.condKT rfl (decide_eq_true hc41) ?_
                refine VC.rs ?_
                refine VO.mv ?_
                refine VO.y rfl (.nilp rfl) ?_
                refine VO.y rfl (.fa rfl tst55 rfl) ?_
                obtain ⟨q66_E, q66_A2, q66_c2, q66_n0, q66_n2, _, q66_S, q66_0, q66_2⟩ := openP_runRuns (x0 := (gd_, (dWrite D_ 2 ((fAppend [] ((runEncode d1).1)).1)).1)) (x1 := br_) (x2 := l_) ho40
                dsimp only at q66_0
                have q66_r2 := q66_2.rm
                refine VO.inv _ (fun _ h => h.parts (i := 140) rfl q66_S [169, 167, 168]) ?_
                refine VO.store (k := 1) (c' := [Value.pointer (some ⟨gd_, 0, none⟩), Value.bool true, Value.slice q66_A2 (l_.length) (q66_c2)]) 169 rfl rfl (.inr ⟨tk4, rfl⟩) rfl rfl rfl rfl rfl ?_
                refine VO.clsP 170 [169, 167, 168] rfl (fun hg70 => (mkP_runRuns (gd_, (dWrite D_ 2 ((fAppend [] ((runEncode d1).1)).1)).1) true l_ hg70 q66_0 q66_2)) (fun mc70 ho70 => ?_)
                refine VO.kp [170, 129, 124, 102, 0] [(170, mc70), (129, m29), (124, m24), (102, mone g1 (.cells [Value.int .i64 (d1.1), Value.int .i64 (d1.2.1), Value.slice p1_A2 (d1.2.2.length) (p1_c2)].toArray 32 (0, 0))), (0, mout (wm W) (m0))] ?_
                refine VO.k14 0 1 3 4 5 6 7 9 21 31 38 45 53 60 ?_
                refine VC.rs ?_
                refine VO.mv ?_
                refine VO.as ?_
                refine VO.k14 0 1 3 4 5 6 7 9 21 31 38 45 53 60 ?_
                refine VC.ret ?_
                refine outR ?_
                refine ⟨_, _, res_run (rs := [.tmp 4]) rfl (.tmp rfl .nil), fun W_ hI => out_of (l := [mc70]) hI [170] rfl rfl (mle_refl _) (fun hS_ => ?_)⟩
                dsimp only [packV]
                have hm0_ : (((gd_, (uFlush D_ br_ l_ d1).1.1), (uFlush D_ br_ l_ d1).1.2) : DrunRuns) = ((gd_, (dWrite D_ 2 ((fAppend [] ((runEncode d1).1)).1)).1), true, l_) := by first | rfl | (exact fin0_uFlush_ok)
                refine ⟨?_, ?_⟩
                rotate_left
                · rw [hm0_]; exact (Ow.up ho70 (hS_.1 _ (.head _)))
                all_goals (first | rfl | (exact fin0_uFlush_ok))
            · -- FFFFFF
              exact absurd (by rw [enc_frame (by assumption)]) hc32
theorem uOpenY_ok (W : World) {m0 : Mem} (hm : mle (m0) (wm W)) {g0 : Nat} {d0 : DdiskDisk} (h0 : Ow (.ptr TdiskDisk) m0 [.pointer (some ⟨g0, 0, none⟩)] (g0, d0)) (e0 : okD d0) (e1 : wD d0 + 200000 ≤ 1000000000000) (e2 : (uOpen d0).2 = 0) : CallR Try.prog 9 [.pointer (some ⟨g0, 0, none⟩)] W (m0) (fun v m' => ∃ (s0 : Nat), v = .tuple #[.pointer (some ⟨s0, 0, none⟩), .int .i64 (0)] ∧ Ow (.ptr TrunRuns) m' [.pointer (some ⟨s0, 0, none⟩)] (s0, ((g0, (uOpen d0).1), false, (runF (dRead d0 2).1).1))) := by
  refine CallR.ofB (n := 42) hm Try.func9 rfl rfl rfl ?_
  refine VC.rs ?_
  refine VO.as ?_
  refine VO.as ?_
  refine VO.k3 0 2 3 ?_
  refine VC.rs ?_
  refine VO.mv ?_
  refine VO.call 1 rfl fnOk38 rfl rfl (fun W hW => dRead_ok W (hW.at (i := 1) rfl) h0 2 bdk (by assumption) bd) (fun v1 m1 hv1 => ?_)
  obtain ⟨s1_0, p1_0, p1_1, rfl, hS1, f1_0, w1_0⟩ := hv1
  refine VO.inv _ (fun _ h => h.parts (i := 1) rfl hS1 [102, 103]) ?_
  have hfa4 := (read_size d0 2)
  obtain ⟨A1_0, c1_0, eq1_0, l1_0, k1_0⟩ := f1_0.slice
  subst eq1_0
  simp only [maxLen] at k1_0
  refine VO.mv ?_
  refine VO.y rfl (.ext rfl rfl) ?_
  refine VO.y rfl (.ext rfl rfl) ?_
  refine VO.as ?_
  refine VO.as ?_
  refine VO.k5 0 2 3 4 5 ?_
  refine VC.seq ?_
  refine VC.rs ?_
  refine VO.mv ?_
  refine VO.y rfl (.neq rfl rfl) ?_
  refine VO.kp [102, 103, 0] [(102, p1_0), (103, p1_1), (0, mout (wm W) (m0))] ?_
  refine VO.k6 0 2 3 4 5 16 ?_
  refine VC.cond rfl (fun hc5 => ?_) (fun hc5 => ?_)
  · -- T
    rw [uopen_bad hc5] at e2; exact absurd e2 hc5
  · -- F
    refine VC.skip ?_
    refine outN ?_
    refine VC.rs ?_
    refine VO.mv ?_
    refine VO.callN 106 rfl fnOk39 rfl (fun W hW => uScan_ok W (OwnL.rd (Ow.ownl f1_0 rfl mnil) (hW.at (i := 102) rfl) (mle_nil _)) bd) (fun v6 m6 hv6 => ?_)
    obtain ⟨s6_0, rfl, f6_0⟩ := hv6
    have hfa7 := runF_bounds ((dRead d0 2).1)
    obtain ⟨A6_0, c6_0, eq6_0, l6_0, k6_0⟩ := f6_0.slice
    subst eq6_0
    simp only [maxLen] at k6_0
    refine VO.mv ?_
    refine VO.y rfl (.ext rfl rfl) ?_
    refine VO.y rfl (.ext rfl rfl) ?_
    refine VO.as ?_
    refine VO.as ?_
    refine VO.k8 0 2 3 4 5 6 7 16 ?_
    refine VC.seq ?_
    refine VC.rs ?_
    refine VO.mv ?_
    refine VO.mv ?_
    refine VO.y rfl (.lenS rfl tsl38) ?_
    refine VO.y rfl (.lss rfl rfl) ?_
    refine VO.k9 0 2 3 4 5 6 7 16 26 ?_
    refine VC.cond rfl (fun hc8 => ?_) (fun hc8 => ?_)
    · -- FT
      refine VC.seq ?_
      refine VC.rs ?_
      refine VO.mv ?_
      refine VO.mv ?_
      refine VO.call 103 rfl fnOk40 rfl rfl (fun W hW => dCut_ok W (hW.at (i := 103) rfl) w1_0 2 bdk ((runF ((dRead d0 2).1)).2) bdk (by assumption) bd) (fun v9 m9 hv9 => ?_)
      obtain ⟨rfl, w9_0⟩ := hv9
      have hfa10 := (cut_ok (f := 2) (n := ((runF ((dRead d0 2).1)).2)) (show okD d0 by assumption))
      have hfa11 := (cut_w (f := 2) (n := ((runF ((dRead d0 2).1)).2)) (show okD d0 by assumption))
      refine VO.as ?_
      refine VO.kp [103, 106, 102, 0] [(103, m9), (106, m6), (102, p1_0), (0, mout (wm W) (m0))] ?_
      refine VO.k10 0 2 3 4 5 6 7 8 16 26 ?_
      refine VC.rs ?_
      refine VO.mv ?_
      refine VO.y rfl (.neq rfl rfl) ?_
      refine VO.k11 0 2 3 4 5 6 7 8 16 26 31 ?_
      refine VC.cond rfl (fun hc12 => ?_) (fun hc12 => ?_)
      · -- FTT
        rw [uopen_cutbad (by assumption) (by assumption) hc12] at e2; exact absurd e2 hc12
      · -- FTF
        refine VC.skip ?_
        refine outN ?_
        refine VC.rs ?_
        refine VO.mv ?_
        refine VO.call 103 rfl fnOk41 rfl rfl (fun W hW => dSync_ok W (hW.at (i := 103) rfl) w9_0 (by assumption) bd) (fun v13 m13 hv13 => ?_)
        obtain ⟨rfl, w13_0⟩ := hv13
        have hfa14 := (sync_ok (show okD ((dCut d0 2 ((runF ((dRead d0 2).1)).2)).1) by assumption))
        have hfa15 := (sync_w (show okD ((dCut d0 2 ((runF ((dRead d0 2).1)).2)).1) by assumption))
        refine VO.as ?_
        refine VO.k12 0 2 3 4 5 6 7 8 9 16 26 31 ?_
        refine VC.rs ?_
        refine VO.mv ?_
        refine VO.y rfl (.neq rfl rfl) ?_
        refine VO.kp [103, 106, 102, 0] [(103, m13), (106, m6), (102, p1_0), (0, mout (wm W) (m0))] ?_
        refine VO.k13 0 2 3 4 5 6 7 8 9 16 26 31 36 ?_
        refine VC.cond rfl (fun hc16 => ?_) (fun hc16 => ?_)
        · -- FTFT
          rw [uopen_sync (by assumption) (by assumption) (by assumption)] at e2; exact absurd e2 hc16
        · -- FTFF
          refine VC.skip ?_
          refine outN ?_
          refine VC.rs ?_
          refine VO.mv ?_
          refine VO.mv ?_
          refine VO.y rfl (.bst (cs := [Value.pointer (some ⟨g0, 0, none⟩), Value.bool false, Value.slice A6_0 (((runF ((dRead d0 2).1)).1).length) (c6_0)]) rfl tst55 tz55 rfl) ?_
          refine VO.box (cs := [Value.pointer (some ⟨g0, 0, none⟩), Value.bool false, Value.slice A6_0 (((runF ((dRead d0 2).1)).1).length) (c6_0)]) 118 rfl rfl rfl (fun g17 => ?_)
          refine VO.as ?_
          refine VO.as ?_
          refine VO.k13 0 2 3 4 5 6 7 8 9 16 26 31 36 ?_
          refine VC.ret ?_
          refine ⟨_, _, res_run (rs := [.tmp 2, .tmp 3]) rfl (.tmp rfl (.tmp rfl .nil)), fun W_ hI => out_of (l := [mone g17 (.cells [Value.pointer (some ⟨g0, 0, none⟩), Value.bool false, Value.slice A6_0 (((runF ((dRead d0 2).1)).1).length) (c6_0)].toArray 55 (0, 0)), m13, m6]) hI [118, 103, 106] rfl rfl (mle_refl _) (fun hS_ => ?_)⟩
          dsimp only [packV]
          have he0 : (((g0, (uOpen d0).1), false, (runF (dRead d0 2).1).1) : DrunRuns) = ((g0, (dSync ((dCut d0 2 ((runF ((dRead d0 2).1)).2)).1)).1), false, (runF ((dRead d0 2).1)).1) := by first | rfl | (first | (rw [uopen_bad (by assumption)] <;> first | rfl | done) | (rw [uopen_whole (by assumption) (by assumption)] <;> first | rfl | done) | (rw [uopen_cutbad (by assumption) (by assumption) (by assumption)] <;> first | rfl | done) | (rw [uopen_sync (by assumption) (by assumption) (by assumption)] <;> first | rfl | done))
          refine ⟨g17, ?_, ?_⟩
          rotate_left
          · rw [he0]; exact (mkP_runRuns (g0, (dSync ((dCut d0 2 ((runF ((dRead d0 2).1)).2)).1)).1) false ((runF ((dRead d0 2).1)).1) hS_ w13_0 f6_0)
          all_goals (first | rfl | (first | (rw [uopen_bad (by assumption)] <;> first | rfl | done) | (rw [uopen_whole (by assumption) (by assumption)] <;> first | rfl | done) | (rw [uopen_cutbad (by assumption) (by assumption) (by assumption)] <;> first | rfl | done) | (rw [uopen_sync (by assumption) (by assumption) (by assumption)] <;> first | rfl | done)))
    · -- FF
      refine VC.skip ?_
      refine outN ?_
      refine VC.rs ?_
      refine VO.mv ?_
      refine VO.mv ?_
      refine VO.y rfl (.bst (cs := [Value.pointer (some ⟨g0, 0, none⟩), Value.bool false, Value.slice A6_0 (((runF ((dRead d0 2).1)).1).length) (c6_0)]) rfl tst55 tz55 rfl) ?_
      refine VO.box (cs := [Value.pointer (some ⟨g0, 0, none⟩), Value.bool false, Value.slice A6_0 (((runF ((dRead d0 2).1)).1).length) (c6_0)]) 120 rfl rfl rfl (fun g19 => ?_)
      refine VO.as ?_
      refine VO.as ?_
      refine VO.kp [120, 106, 102, 103, 0] [(120, mone g19 (.cells [Value.pointer (some ⟨g0, 0, none⟩), Value.bool false, Value.slice A6_0 (((runF ((dRead d0 2).1)).1).length) (c6_0)].toArray 55 (0, 0))), (106, m6), (102, p1_0), (103, p1_1), (0, mout (wm W) (m0))] ?_
      refine VO.k9 0 2 3 4 5 6 7 16 26 ?_
      refine VC.ret ?_
      refine ⟨_, _, res_run (rs := [.tmp 2, .tmp 3]) rfl (.tmp rfl (.tmp rfl .nil)), fun W_ hI => out_of (l := [mone g19 (.cells [Value.pointer (some ⟨g0, 0, none⟩), Value.bool false, Value.slice A6_0 (((runF ((dRead d0 2).1)).1).length) (c6_0)].toArray 55 (0, 0)), p1_1, m6]) hI [120, 103, 106] rfl rfl (mle_refl _) (fun hS_ => ?_)⟩
      dsimp only [packV]
      have he0 : (((g0, (uOpen d0).1), false, (runF (dRead d0 2).1).1) : DrunRuns) = ((g0, d0), false, (runF ((dRead d0 2).1)).1) := by first | rfl | (first | (rw [uopen_bad (by assumption)] <;> first | rfl | done) | (rw [uopen_whole (by assumption) (by assumption)] <;> first | rfl | done) | (rw [uopen_cutbad (by assumption) (by assumption) (by assumption)] <;> first | rfl | done) | (rw [uopen_sync (by assumption) (by assumption) (by assumption)] <;> first | rfl | done))
      refine ⟨g19, ?_, ?_⟩
      rotate_left
      · rw [he0]; exact (mkP_runRuns (g0, d0) false ((runF ((dRead d0 2).1)).1) hS_ w1_0 f6_0)
      all_goals (first | rfl | (first | (rw [uopen_bad (by assumption)] <;> first | rfl | done) | (rw [uopen_whole (by assumption) (by assumption)] <;> first | rfl | done) | (rw [uopen_cutbad (by assumption) (by assumption) (by assumption)] <;> first | rfl | done) | (rw [uopen_sync (by assumption) (by assumption) (by assumption)] <;> first | rfl | done)))
def bwE (mf : Mem) (l : List DRun) (a : Int) (args : List Value) (mr : Mem) : Prop := 0 ≤ a ∧ a < l.length ∧ mr = mnil ∧ ∃ x cs, l[a.toNat]? = some x ∧ args = [.int .i64 a, .agg cs.toArray] ∧ Rd TRun mf cs x
def bwN (a : Int) : Int := a - 1
def bwD (a : Int) : Prop := a < 0
theorem bw1_ok {l : List DRun} {gc : Nat} {v : Value} {mf : Mem} (hl : Rd (.sl TRun) mf [v] l) :
    IterR Try.prog 78 [.pointer (some ⟨gc, 0, none⟩)] mf (mone gc (.cells [v].toArray 47 (0, 0))) (bwE mf l) bwN ((l.length : Int) - 1) bwD := by
  intro G M I X lp W g0 h0 hm hdj hmf hdf hy
  obtain ⟨A, c, rfl, l0, k0⟩ := hl.slice
  simp only [maxLen] at k0
  refine CallR.ofX (n := 19) Try.func78 rfl rfl rfl hm ?_
  refine VX.parts 1 [1, 2] (l := [M g0, mone gc (.cells [(.slice A l.length c : Value)].toArray 47 (0, 0))]) rfl ⟨fun x hx => ?_, List.pairwise_cons.2 ⟨fun x hx => ?_, List.pairwise_singleton _ _⟩⟩ ?_
  · simp only [List.mem_cons, List.not_mem_nil, or_false] at hx
    rcases hx with rfl | rfl
    · exact mle_un_left _ _
    · exact mle_un_right hdj
  · simp only [List.mem_cons, List.not_mem_nil, or_false] at hx
    subst hx; exact hdj
  refine VX.rs ?_
  refine VO.y rfl (.ld1 2 rfl (by kernel_rfl) rfl (cellsAt_one rfl rfl)) ?_
  refine VO.y rfl (.lenS rfl tsl47) ?_
  refine VO.y rfl (.sub (c := (l.length : Int) - 1) rfl rfl rfl ⟨by omega, by omega⟩) ?_
  refine VO.as ?_
  refine VO.k3 0 1 3 ?_
  refine VX.block ?_
  refine VX.loop (G := Int × G) (fun s => [(0, .func (.yield lp) #[] #[]), (1, .pointer (some ⟨gc, 0, none⟩)), (3, .int .i64 s.1)]) (fun s => [(1, M s.2), (2, mone gc (.cells [(.slice A l.length c : Value)].toArray 47 (0, 0))), (0, mout (wm W) (mun (M g0) (mone gc (.cells [(.slice A l.length c : Value)].toArray 47 (0, 0)))))]) (fun s => I s.1 s.2 ∧ -1 ≤ s.1 ∧ s.1 < l.length) (fun s => (s.1 + 1).toNat) ((l.length : Int) - 1, g0) ⟨h0, by dsimp only; omega, by dsimp only; omega⟩ ⟨⟨rfl, rfl, rfl, trivial⟩, fun _ h => h.sub [1, 2, 0]⟩ ?_
  rintro ⟨a, g⟩ ⟨hI, ha, hal⟩
  dsimp only at hI ha hal
  show VX _ _ _ _ _ _ _ [(0, .func (.yield lp) #[] #[]), (1, .pointer (some ⟨gc, 0, none⟩)), (3, .int .i64 a)] [(1, M g), (2, mone gc (.cells [(.slice A l.length c : Value)].toArray 47 (0, 0))), (0, mout (wm W) (mun (M g0) (mone gc (.cells [(.slice A l.length c : Value)].toArray 47 (0, 0)))))]
  refine VX.seq ?_
  refine VX.rs ?_
  refine VO.mv ?_
  refine VO.y rfl (.geq rfl rfl) ?_
  refine VO.k4 0 1 3 8 ?_
  refine VX.cond rfl (fun hc => ?_) (fun hc => ?_)
  · refine VX.skip (outN ?_)
    refine VX.seq (VX.block ?_)
    refine VX.seq ?_
    obtain ⟨x, hx⟩ : ∃ x, l[a.toNat]? = some x := ⟨_, List.getElem?_eq_getElem (by omega)⟩
    obtain ⟨gg, oo, ec, ea, hce, hre⟩ := hl.elem hx
    cases ea
    refine VX.regL _ (hix := ?_) (VL.pre (r := [6, 7]) 6 (by kernel_rfl) ?_)
    · kernel_rfl
    refine VO.mv ?_
    refine VO.mv ?_
    refine VO.y rfl (.ld1 2 rfl (by kernel_rfl) rfl (cellsAt_one rfl rfl)) ?_
    refine VO.mv ?_
    refine VO.y rfl (.ixI a.toNat rfl rfl tsl47 (by omega) (by omega)) ?_
    refine VO.y rfl (.ldA 0 rfl (by kernel_rfl) rfl (hce.mono (mle_out hmf hdf))) ?_
    refine VO.nil ?_
    refine VL.yield 1 rfl rfl (.inl rfl) rfl rfl rfl (fun W' hW => by have h_ := hy a g _ mnil W' hI ⟨hc, hal, rfl, x, ec, hx, rfl, hre⟩ ((hW.nilc 9).sub [0, 1, 9]).three; rw [mun_nil] at h_; exact h_) (fun v m' hv => ?_)
    obtain ⟨g', rfl, hv⟩ := hv
    rcases hv with ⟨rfl, hI'⟩ | ⟨rfl, hX⟩
    · refine VL.post 7 rfl (by kernel_rfl) ?_
      refine VO.y rfl (.not rfl) ?_
      refine VO.k4 0 1 3 18 ?_
      refine outN (VX.condF rfl ?_)
      refine VX.skip (outBN (outN ?_))
      refine VX.reg ?_
      refine VO.mv ?_
      refine VO.y rfl (.sub (c := bwN a) rfl rfl rfl ⟨by unfold bwN; omega, by unfold bwN; omega⟩) ?_
      refine VO.as ?_
      refine VO.nil ?_
      refine outN ⟨rfl, (bwN a, g'), ⟨hI', by unfold bwN; dsimp only; omega, by unfold bwN; dsimp only; omega⟩, by unfold bwN; dsimp only; omega, ⟨⟨rfl, rfl, rfl, trivial⟩, fun _ h => h.sub [1, 2, 0]⟩⟩
    · refine VL.post 7 rfl (by kernel_rfl) ?_
      refine VO.y rfl (.not rfl) ?_
      refine VO.k4 0 1 3 18 ?_
      refine outN (VX.condT rfl ?_)
      refine VX.ret ?_
      refine outBR (outR (outR (outBR ?_)))
      refine ⟨_, _, res_run (rs := []) rfl .nil, fun W_ hI_ => out_of (l := [M g']) hI_ [1] rfl rfl (mle_refl _) (fun hS_ => ⟨g', mun_nil _, .inl hX⟩)⟩
  · refine VX.exit (outE (outE (outBB ?_)))
    refine ⟨_, _, res_run (rs := []) rfl .nil, fun W_ hI_ => out_of (l := [M g]) hI_ [1] rfl rfl (mle_refl _) (fun hS_ => ⟨g, mun_nil _, .inr ⟨a, hI, by unfold bwD; omega⟩⟩)⟩
theorem bw_ok (W : World) {mf : Mem} (hmf : mle mf (wm W)) {v0 : Value} {d0 : List DRun} (h0 : Rd (.sl TRun) mf [v0] d0) : CallR Try.prog 46 [v0] W mnil (fun v m' => ∃ caps, v = .func (.func 78) #[] (List.toArray caps) ∧ IterR Try.prog 78 caps mf m' (bwE mf d0) bwN ((d0.length : Int) - 1) bwD) := by
  obtain ⟨A, c, rfl, _, _⟩ := h0.slice
  refine CallR.ofA (n := 4) Try.func46 rfl rfl rfl ?_
  refine VC.rs ?_
  refine VO.box (cs := [(.slice A d0.length c : Value)]) 101 rfl rfl rfl (fun g1 => ?_)
  refine VO.as ?_
  refine VO.k1 1 ?_
  refine VC.rs ?_
  refine VO.y rfl (.mkf rfl) ?_
  refine VO.as ?_
  refine VO.k1 2 ?_
  refine VC.ret ?_
  refine ⟨_, _, res_run (rs := [.tmp 2]) rfl (.tmp rfl .nil), fun W_ hI => out_of (l := [mone g1 (.cells [(.slice A d0.length c : Value)].toArray 47 (0, 0))]) hI [101] rfl rfl (mle_refl _) (fun hS_ => ⟨[.pointer (some ⟨g1, 0, none⟩)], rfl, ?_⟩)⟩
  show IterR _ _ _ _ (mun _ mnil) _ _ _ _
  rw [mun_nil]
  exact bw1_ok h0
/-- the key at a place of a list of ops -/
def kAt (l : List DOp) (i : Nat) : Bytes := (l[i]?.getD (false, [], [])).2.1
theorem kAt_of {l : List DOp} {i : Nat} {x : DOp} (h : l[i]? = some x) : kAt l i = x.2.1 := by unfold kAt; rw [h]; rfl
def geK (l : List DOp) (k : Bytes) (i : Nat) : Bool := decide (¬ kl (kAt l i) k)
def opAns : Option DOp → Bytes × Bool × Bool
  | some o => (o.2.2, true, o.1)
  | none => ([], false, false)
def findK (l : List DOp) (k : Bytes) : Option DOp := l.find? fun o => decide (o.2.1 = k)
def getRev : List DRun → Bytes → Option DOp
  | [], _ => none
  | r :: l, k => match findK r.2.2 k with
    | some o => some o
    | none => getRev l k
def getR (l : List DRun) (k : Bytes) : Bytes × Bool × Bool := opAns (getRev l.reverse k)
section
variable {l : List DOp} {k : Bytes} {i j : Nat} {x : DOp} {u : List DRun} {r : DRun}
theorem ups_lt {y : DOp} (h : opsUp l) (hx : l[i]? = some x) (hy : l[j]? = some y) (hij : i < j) : kl x.2.1 y.2.1 := by
  obtain ⟨h1, e1⟩ := List.getElem?_eq_some_iff.1 hx
  obtain ⟨h2, e2⟩ := List.getElem?_eq_some_iff.1 hy
  have := List.pairwise_iff_getElem.1 h.2 _ _ h1 h2 hij
  rwa [e1, e2] at this
theorem find_at (h : opsUp l) (hx : l[i]? = some x) (he : x.2.1 = k) : findK l k = some x := by
  unfold findK
  cases hf : l.find? fun o => decide (o.2.1 = k) with
  | none =>
    have := List.find?_eq_none.1 hf x (List.mem_of_getElem? hx)
    rw [he] at this; simp at this
  | some y =>
    have hy := List.find?_some hf
    simp only [decide_eq_true_eq] at hy
    obtain ⟨j, hj⟩ := List.getElem?_of_mem (List.mem_of_find?_eq_some hf)
    rcases Nat.lt_trichotomy i j with q | q | q
    · have := ups_lt h hx hj q; rw [he, hy] at this; exact absurd this (kl_irrefl _)
    · subst q; rw [hx] at hj; exact hj.symm
    · have := ups_lt h hj hx q; rw [he, hy] at this; exact absurd this (kl_irrefl _)
/-- where the search has ended, and the key is not there, it is nowhere -/
theorem find_not (h : opsUp l) (hi : i ≤ l.length) (h1 : i < l.length → geK l k i = true) (h2 : 0 < i → geK l k (i - 1) = false) (hn : ∀ x, l[i]? = some x → ¬ x.2.1 = k) : findK l k = none := by
  unfold findK
  refine List.find?_eq_none.2 fun y hy => ?_
  obtain ⟨j, hj⟩ := List.getElem?_of_mem hy
  have hjl := (List.getElem?_eq_some_iff.1 hj).1
  simp only [decide_eq_true_eq]
  intro e
  rcases Nat.lt_trichotomy j i with q | q | q
  · have h3 := h2 (by omega)
    have h4 : kl (kAt l (i - 1)) k := by unfold geK at h3; simpa using h3
    obtain ⟨z, hz⟩ : ∃ z, l[i - 1]? = some z := ⟨_, List.getElem?_eq_getElem (by omega)⟩
    rw [kAt_of hz] at h4
    rcases Nat.lt_or_ge j (i - 1) with q2 | q2
    · have := kl_trans (ups_lt h hj hz q2) h4; rw [e] at this; exact kl_irrefl _ this
    · have : j = i - 1 := by omega
      subst this; rw [hj] at hz; cases hz; rw [e] at h4; exact kl_irrefl _ h4
  · subst q; exact hn y hj e
  · have h3 := h1 (by omega)
    have h4 : ¬ kl (kAt l i) k := by unfold geK at h3; simpa using h3
    obtain ⟨z, hz⟩ : ∃ z, l[i]? = some z := ⟨_, List.getElem?_eq_getElem (by omega)⟩
    rw [kAt_of hz] at h4
    have := ups_lt h hz hj q; rw [e] at this; exact h4 this
theorem getRev_take {n : Nat} (hx : u[n]? = some r) : getRev (u.take (n + 1)).reverse k = (match findK r.2.2 k with | some o => some o | none => getRev (u.take n).reverse k) := by
  rw [take_one hx, List.reverse_append]; rfl
/-- so far, from the last on: nothing of the key. -/
def getAt (u : List DRun) (k : Bytes) (a : Int) : Prop := -1 ≤ a ∧ a < u.length ∧ getR u k = opAns (getRev (u.take (a + 1).toNat).reverse k)
theorem getAt_0 (u : List DRun) (k : Bytes) : getAt u k ((u.length : Int) - 1) := ⟨by omega, by omega, by
  unfold getR; rw [List.take_of_length_le (by omega)]⟩
theorem getAt_next {a : Int} (h : getAt u k a) (h0 : 0 ≤ a) (hx : u[a.toNat]? = some r) (hf : findK r.2.2 k = none) : getAt u k (a - 1) := by
  refine ⟨by omega, by have := h.2.1; omega, ?_⟩
  rw [h.2.2, show (a + 1).toNat = a.toNat + 1 by omega, getRev_take hx, hf, show (a - 1 + 1).toNat = a.toNat by omega]
theorem getAt_hit {a : Int} {o : DOp} (h : getAt u k a) (h0 : 0 ≤ a) (hx : u[a.toNat]? = some r) (hf : findK r.2.2 k = some o) : getR u k = (o.2.2, true, o.1) := by
  rw [h.2.2, show (a + 1).toNat = a.toNat + 1 by omega, getRev_take hx, hf]; rfl
theorem getAt_end {a : Int} (h : getAt u k a) (ha : a < 0) : getR u k = ([], false, false) := by
  rw [h.2.2, show (a + 1).toNat = 0 by omega]; rfl
end
theorem fnOk46 : fnOk Try.prog 46 = true := by kernel_rfl
theorem fnOk47 : fnOk Try.prog 47 = true := by kernel_rfl
theorem fnOk48 : fnOk Try.prog 48 = true := by kernel_rfl
theorem tz4 : tz Try.prog 4 = some [.bool false] := by kernel_rfl
theorem tz9 : tz Try.prog 9 = some [.string ⟨#[]⟩] := by kernel_rfl
theorem search_ok (W : World) (d0 : Nat) (h0 : d0 < 9223372036854775808) {gf1 : FuncId} {caps1 : List Value} {p1 : Nat → Bool} (hf1 : fnOk Try.prog gf1 = true) (h1 : ∀ W', mle (wm W) (wm W') → ∀ i : Nat, i < d0 → CallR Try.prog gf1 (.int .i64 ((i : Nat) : Int) :: caps1) W' mnil (fun v _ => v = .bool (p1 i))) (e0 : d0 ≤ 4611686018427387903) : CallR Try.prog 47 [.int .i64 (d0 : Int), .func (.func gf1) #[] caps1.toArray] W (mnil) (fun v m' => ∃ (kq : Nat), v = .int .i64 ((kq : Nat) : Int) ∧ kq ≤ d0 ∧ (kq < d0 → p1 kq = true) ∧ (0 < kq → p1 (kq - 1) = false)) := by
  refine CallR.ofA (n := 26) Try.func47 rfl rfl rfl ?_
  refine VC.rs ?_
  refine VO.as ?_
  refine VO.k3 0 1 4 ?_
  refine VC.rs ?_
  refine VO.mv ?_
  refine VO.as ?_
  refine VO.as ?_
  refine VO.k5 0 1 4 5 6 ?_
  refine VC.seq ?_
  refine VC.block ?_
  refine VC.loop (G := Nat × Nat) (fun g => [(5, Value.int .i64 ((((g.1) : Nat) : Int))), (6, Value.int .i64 ((((g.2) : Nat) : Int))), (0, Value.int .i64 (((d0 : Nat) : Int))), (1, Value.func (.func gf1) #[] caps1.toArray), (4, Value.int .i64 (0))]) (fun g => [(0, wm W)]) (fun g => ((g.1) ≤ (g.2)) ∧ ((g.2) ≤ d0) ∧ (0 < (g.1) → p1 ((g.1) - 1) = false) ∧ ((g.2) < d0 → p1 (g.2) = true)) (fun g => (g.2) - (g.1)) (0, d0) (⟨by omega, by omega, by (intro h_; exact absurd h_ (by omega)), by (intro h_; exact absurd h_ (by omega))⟩) ⟨⟨rfl, rfl, rfl, rfl, rfl, trivial⟩, fun _ h => h.sub [0]⟩ ?_
  rintro ⟨i, j⟩ ⟨hij, hj, hp1, hp2⟩
  replace hij : i ≤ j := hij
  replace hj : j ≤ d0 := hj
  replace hp1 : 0 < i → p1 (i - 1) = false := hp1
  replace hp2 : j < d0 → p1 j = true := hp2
  show VC _ _ _ _ _ [(5, Value.int .i64 (((i : Nat) : Int))), (6, Value.int .i64 (((j : Nat) : Int))), (0, Value.int .i64 (((d0 : Nat) : Int))), (1, Value.func (.func gf1) #[] caps1.toArray), (4, Value.int .i64 (0))] [(0, wm W)]
  refine VC.seq ?_
  refine VC.rs ?_
  refine VO.mv ?_
  refine VO.mv ?_
  refine VO.y rfl (.lss rfl rfl) ?_
  refine VO.kp [0] [(0, wm W)] ?_
  refine VO.k6 0 1 4 5 6 11 ?_
  refine VC.cond rfl (fun hc1 => ?_) (fun hc1 => ?_)
  · -- T
    refine VC.skip ?_
    refine outN ?_
    refine VC.block ?_
    refine VC.rs ?_
    refine VO.mv ?_
    refine VO.mv ?_
    refine VO.y rfl (.add (c := ((i + j : Nat) : Int)) rfl rfl (by omega) ⟨bd, bd⟩) ?_
    refine VO.y rfl (.cvI rfl ⟨_, Try.underlying3⟩ Try.underlying119 (IntWalk.u64_in _ bd)) ?_
    refine VO.y rfl (.shf (.inr rfl) rfl rfl (shr1 _)) ?_
    refine VO.y rfl (.cvI rfl ⟨_, Try.underlying119⟩ Try.underlying3 (IntWalk.i64_in _ bd)) ?_
    refine VO.as ?_
    refine VO.k7 0 1 4 5 6 7 11 ?_
    refine VC.rs ?_
    refine VO.mv ?_
    refine VO.mv ?_
    refine VO.callVN 102 rfl rfl hf1 rfl (fun W_ hW_ => h1 W_ (hW_.at (i := 0) rfl) ((i + j) / 2) bd) (fun v2 m2 hv2 => ?_)
    subst hv2
    refine VO.y rfl (.not rfl) ?_
    refine VO.k8 0 1 4 5 6 7 11 21 ?_
    refine VC.condBN rfl (fun hc3 => ?_) (fun hc3 => ?_)
    · -- TT
      refine VC.reg ?_
      refine VO.mv ?_
      refine VO.y rfl (.add (c := ((((i + j) / 2) + 1 : Nat) : Int)) rfl rfl (by omega) ⟨bd, bd⟩) ?_
      refine VO.as ?_
      refine VO.kp [0] [(0, wm W)] ?_
      refine VO.k8 0 1 4 5 6 7 11 21 ?_
      refine outBN ?_
      exact outN ⟨⟨((i + j) / 2) + 1, j⟩, ⟨by omega, by omega, by first | exact hp1 | (intro _; rw [show (i + j) / 2 + 1 - 1 = (i + j) / 2 by omega]; assumption), by first | exact hp2 | (intro _; assumption)⟩, bd, ⟨⟨rfl, rfl, rfl, rfl, rfl, trivial⟩, fun _ h => Inv.sub h [0]⟩⟩
    · -- TF
      refine VC.reg ?_
      refine VO.mv ?_
      refine VO.as ?_
      refine VO.kp [0] [(0, wm W)] ?_
      refine VO.k8 0 1 4 5 6 7 11 21 ?_
      refine outBN ?_
      exact outN ⟨⟨i, (i + j) / 2⟩, ⟨by omega, by omega, by first | exact hp1 | (intro _; rw [show (i + j) / 2 + 1 - 1 = (i + j) / 2 by omega]; assumption), by first | exact hp2 | (intro _; assumption)⟩, bd, ⟨⟨rfl, rfl, rfl, rfl, rfl, trivial⟩, fun _ h => Inv.sub h [0]⟩⟩
  · -- F
    refine VC.exit ?_
    refine outE ?_
    refine outE ?_
    refine outBB ?_
    refine outN ?_
    refine VC.rs ?_
    refine VO.mv ?_
    refine VO.as ?_
    refine VO.k6 0 1 4 5 6 11 ?_
    refine VC.ret ?_
    refine ⟨_, _, res_run (rs := [.tmp 4]) rfl (.tmp rfl .nil), fun W_ hI => out_of (l := []) hI [] rfl rfl (mle_refl _) (fun hS_ => ?_)⟩
    dsimp only [packV]
    refine ⟨i, ?_, ?_, ?_, ?_⟩
    rotate_left
    · (omega)
    · ((intro h_; have e_ : i = j := (by omega); subst e_; exact hp2 h_))
    · (exact hp1)
    all_goals (first | rfl | (simp [*]; done))
theorem get1_ok (W : World) (d0 : Nat) (h0 : d0 < 9223372036854775808) {g1 : Nat} {E1 : TypeId} {v1 : List Value} {d1 : DRun} (h1 : Rd TRun (wm W) v1 d1) (b1 : mle (mone g1 (.cells v1.toArray E1 (0, 0))) (wm W)) {g2 : Nat} {E2 : TypeId} {v2 : List Value} {d2 : List UInt8} (h2 : Rd .str (wm W) v2 d2) (b2 : mle (mone g2 (.cells v2.toArray E2 (0, 0))) (wm W)) (e0 : d0 < d1.2.2.length) : CallR Try.prog 48 [.int .i64 (d0 : Int), .pointer (some ⟨g1, 0, none⟩), .pointer (some ⟨g2, 0, none⟩)] W (mnil) (fun v m' => v = .bool (geK d1.2.2 d2 d0)) := by
  obtain ⟨p1_A2, p1_c2, rfl, p1_0, p1_1, p1_2⟩ := open_Run (x0 := d1.1) (x1 := d1.2.1) (x2 := d1.2.2) h1
  simp only [inK] at p1_0
  simp only [inK] at p1_1
  have p1_r2 := Rd.room p1_2
  have hceb1 : cellsAt (wm W) g1 0 3 [Value.int .i64 (d1.1), Value.int .i64 (d1.2.1), Value.slice p1_A2 (d1.2.2.length) (p1_c2)] := (cellsAt_one rfl rfl).mono b1
  obtain ⟨rfl, _⟩ := h2
  have hceb2 : cellsAt (wm W) g2 0 1 [str (d2)] := (cellsAt_one rfl rfl).mono b2
  refine CallR.ofA (n := 13) Try.func48 rfl rfl rfl ?_
  refine VC.rs ?_
  refine VO.as ?_
  refine VO.k4 0 1 2 4 ?_
  refine VC.seq ?_
  refine VC.regD _ 7 [(0, true), (1, true), (2, true), (3, true), (4, true), (5, true), (6, true)] follows (by kernel_rfl) (fun _ h => h.sub [0]) ?_
  refine VD.y rfl rfl (.inl rfl) (.fa rfl tst32 rfl) ?_
  refine VD.y rfl rfl (.inl rfl) (.ld1 0 rfl tk30 rfl (hceb1.at1 (j := 2) rfl)) ?_
  refine VD.y rfl rfl (.inl rfl) (.mv rfl) ?_
  obtain ⟨x1, hx1⟩ : ∃ z_, (d1.2.2)[d0]? = some z_ := ⟨_, List.getElem?_eq_getElem bd⟩
  obtain ⟨gg1, oo1, ec1, ea1, hce1, hre1⟩ := p1_2.elem hx1
  cases ea1
  obtain ⟨rfl, q1_1, q1_2⟩ := open_Op (x0 := x1.1) (x1 := x1.2.1) (x2 := x1.2.2) hre1
  simp only [maxLen] at q1_1
  simp only [maxLen] at q1_2
  refine VD.y rfl rfl (.inl rfl) (.ixI d0 rfl rfl tsl30 rfl bd) ?_
  refine VD.y rfl rfl (.inl rfl) (.fa rfl tst35 rfl) ?_
  refine VD.y rfl rfl (.inl rfl) (.ld1 0 rfl tk9 rfl (hce1.at1 (j := 1) rfl)) ?_
  refine VD.y rfl rfl (.inl rfl) (.ld1 0 rfl tk9 rfl hceb2) ?_
  refine VD.nil rfl ?_ rfl
  refine VO.y rfl (.sgeq rfl rfl) ?_
  refine VO.as ?_
  refine VO.k4 0 1 2 4 ?_
  refine outN ?_
  refine VC.ret ?_
  refine ⟨_, _, res_run (rs := [.tmp 4]) rfl (.tmp rfl .nil), fun W_ hI => out_of (l := []) hI [] rfl rfl (mle_refl _) (fun hS_ => ?_)⟩
  dsimp only [packV]
  all_goals (first | rfl | (exact congrArg Value.bool (by unfold geK; rw [kAt_of ‹d1.2.2[d0]? = some _›])))
theorem uNoneB_ok (W : World) {g0 : Nat} {E0 : TypeId} {d0 : DrunRuns0} {b0_2 : Value} (hm : mle (mone g0 (.cells [(.pointer (d0.1.map fun g => ⟨g, 0, none⟩) : Value), .bool d0.2.1, b0_2].toArray E0 (0, 0))) (wm W)) (h0_2 : Rd (.sl TRun) (mout (wm W) (mone g0 (.cells [(.pointer (d0.1.map fun g => ⟨g, 0, none⟩) : Value), .bool d0.2.1, b0_2].toArray E0 (0, 0)))) [b0_2] d0.2.2) : CallR Try.prog 42 [.pointer (some ⟨g0, 0, none⟩)] W (mone g0 (.cells [(.pointer (d0.1.map fun g => ⟨g, 0, none⟩) : Value), .bool d0.2.1, b0_2].toArray E0 (0, 0))) (fun v m' => v = .bool (decide (d0.1 = none)) ∧ m' = mone g0 (.cells [(.pointer (d0.1.map fun g => ⟨g, 0, none⟩) : Value), .bool d0.2.1, b0_2].toArray E0 (0, 0))) := by
  obtain ⟨A0_2, c0_2, rfl, l0_2, k0_2⟩ := h0_2.slice
  simp only [maxLen] at k0_2
  refine CallR.ofB (n := 12) hm Try.func42 rfl rfl rfl ?_
  refine VC.rs ?_
  refine VO.as ?_
  refine VO.k2 0 2 ?_
  refine VC.rs ?_
  refine VO.mv ?_
  refine VO.y rfl (.pnil rfl rfl Try.underlying23 rfl) ?_
  refine VO.mv ?_
  refine VO.gy rfl ⟨_, rfl, rfl⟩ (.mv rfl) ?_
  refine VO.gy rfl ⟨_, rfl, rfl⟩ (.nilp rfl) ?_
  refine VO.gy rfl ⟨_, rfl, rfl⟩ (.fa rfl tst55 rfl) ?_
  refine VO.gy rfl ⟨_, rfl, rfl⟩ (.ld1 1 rfl tk27 rfl (cellsAt_one rfl rfl)) ?_
  refine VO.gy rfl ⟨_, rfl, rfl⟩ (.pnilO rfl rfl Try.underlying27) ?_
  refine VO.y rfl (.pF rfl rfl) ?_
  refine VO.as ?_
  refine VO.k2 0 2 ?_
  refine VC.ret ?_
  refine ⟨_, _, res_run (rs := [.tmp 2]) rfl (.tmp rfl .nil), fun W_ hI => out_of (l := [mone g0 (.cells [Value.pointer ((d0.1).map fun g => ⟨g, 0, none⟩), Value.bool d0.2.1, Value.slice A0_2 (d0.2.2.length) (c0_2)].toArray E0 (0, 0))]) hI [1] rfl rfl (mle_refl _) (fun hS_ => ?_)⟩
  dsimp only [packV]
  refine ⟨?_, ?_⟩
  rotate_left
  · rw [muns_one]
  all_goals (first | rfl | (simp [*]; done))
set_option maxHeartbeats 4000000 in
theorem uGet_ok (W : World) {g0 : Nat} {E0 : TypeId} {d0 : DrunRuns0} {b0_2 : Value} (hm : mle (mone g0 (.cells [(.pointer (d0.1.map fun g => ⟨g, 0, none⟩) : Value), .bool d0.2.1, b0_2].toArray E0 (0, 0))) (wm W)) (h0_2 : Rd (.sl TRun) (mout (wm W) (mone g0 (.cells [(.pointer (d0.1.map fun g => ⟨g, 0, none⟩) : Value), .bool d0.2.1, b0_2].toArray E0 (0, 0)))) [b0_2] d0.2.2) (d1 : List UInt8) (h1 : d1.length ≤ maxLen) (e0 : okU d0.2.2) (e1 : ¬ d0.1 = none) : CallR Try.prog 13 [.pointer (some ⟨g0, 0, none⟩), str d1] W (mone g0 (.cells [(.pointer (d0.1.map fun g => ⟨g, 0, none⟩) : Value), .bool d0.2.1, b0_2].toArray E0 (0, 0))) (fun v m' => v = .tuple #[str ((getR d0.2.2 d1).1), .bool ((getR d0.2.2 d1).2.1), .bool ((getR d0.2.2 d1).2.2)] ∧ m' = mone g0 (.cells [(.pointer (d0.1.map fun g => ⟨g, 0, none⟩) : Value), .bool d0.2.1, b0_2].toArray E0 (0, 0))) := by
  have hll := okU_len e0
  obtain ⟨A0_2, c0_2, rfl, l0_2, k0_2⟩ := h0_2.slice
  simp only [maxLen] at k0_2
  have h1' := h1; simp only [maxLen] at h1'
  refine CallR.ofX (n := 51) Try.func13 rfl rfl rfl hm ?_
  refine VX.rs ?_
  refine VO.box (cs := [str (d1)]) 102 rfl rfl rfl (fun g1 => ?_)
  refine VO.alloc 104 rfl tz9 (fun g3 => ?_)
  refine VO.alloc 106 rfl tz4 (fun g5 => ?_)
  refine VO.alloc 108 rfl tz4 (fun g7 => ?_)
  refine VO.k6 0 1 3 4 5 6 ?_
  refine VX.seq ?_
  refine VX.rs ?_
  refine VO.mv ?_
  refine VO.call 1 rfl fnOk42 rfl rfl (fun W hW => uNoneB_ok W (d0 := d0) (hW.at (i := 1) rfl) (Rd.mono h0_2 (hW.out (i := 1) (j := 0) rfl rfl))) (fun v9 m9 hv9 => ?_)
  obtain ⟨rfl, rfl⟩ := hv9
  refine VO.k7 0 1 3 4 5 6 11 ?_
  refine VX.cond rfl (fun hc10 => ?_) (fun hc10 => ?_)
  · -- T
    exact (e1 hc10).elim
  · -- F
    refine VX.skip ?_
    refine outN ?_
    refine VX.seq ?_
    refine VX.rs ?_
    refine VO.mv ?_
    refine VO.y rfl (.nilp rfl) ?_
    refine VO.y rfl (.fa rfl tst55 rfl) ?_
    refine VO.y rfl (.ld1 1 rfl tk47 rfl (cellsAt_one rfl rfl)) ?_
    refine VO.callN 111 rfl fnOk46 rfl (fun W_ hW_ => bw_ok W_ (mf := mout (wm W) (mone g0 (.cells [Value.pointer ((d0.1).map fun g => ⟨g, 0, none⟩), Value.bool d0.2.1, Value.slice A0_2 (d0.2.2.length) (c0_2)].toArray E0 (0, 0)))) (hW_.at (i := 0) rfl) h0_2) (fun v11 m11 hv11 => ?_)
    obtain ⟨ca11, rfl, hit11⟩ := hv11
    refine VO.kp [111, 1, 108, 106, 104, 102, 0] [(111, m11), (1, mone g0 (.cells [Value.pointer ((d0.1).map fun g => ⟨g, 0, none⟩), Value.bool d0.2.1, Value.slice A0_2 (d0.2.2.length) (c0_2)].toArray E0 (0, 0))), (108, mone g7 (.cells [Value.bool false].toArray 4 (0, 0))), (106, mone g5 (.cells [Value.bool false].toArray 4 (0, 0))), (104, mone g3 (.cells [str ([])].toArray 9 (0, 0))), (102, mone g1 (.cells [str (d1)].toArray 9 (0, 0))), (0, mout (wm W) (mone g0 (.cells [Value.pointer ((d0.1).map fun g => ⟨g, 0, none⟩), Value.bool d0.2.1, Value.slice A0_2 (d0.2.2.length) (c0_2)].toArray E0 (0, 0))))] ?_
    refine VO.k8 0 1 3 4 5 6 11 16 ?_
    refine VX.block ?_
    refine VX.gather (l := [mone g7 (.cells [Value.bool false].toArray 4 (0, 0)), mone g5 (.cells [Value.bool false].toArray 4 (0, 0)), mone g3 (.cells [str ([])].toArray 9 (0, 0))]) 113 [108, 106, 104] rfl (fun hg12 => ?_)
    refine VX.inv [(111, m11), (113, muns [mone g7 (.cells [Value.bool false].toArray 4 (0, 0)), mone g5 (.cells [Value.bool false].toArray 4 (0, 0)), mone g3 (.cells [str ([])].toArray 9 (0, 0))]), (1, mone g0 (.cells [Value.pointer ((d0.1).map fun g => ⟨g, 0, none⟩), Value.bool d0.2.1, Value.slice A0_2 (d0.2.2.length) (c0_2)].toArray E0 (0, 0))), (102, mone g1 (.cells [str (d1)].toArray 9 (0, 0))), (0, mout (wm W) (mone g0 (.cells [Value.pointer ((d0.1).map fun g => ⟨g, 0, none⟩), Value.bool d0.2.1, Value.slice A0_2 (d0.2.2.length) (c0_2)].toArray E0 (0, 0))))] (fun _ h => h.sub [111, 113, 1, 102, 0]) ?_
    refine VX.rangeR (A := Int) (G := (List UInt8) × Bool × Bool) (rest := [(1, mone g0 (.cells [Value.pointer ((d0.1).map fun g => ⟨g, 0, none⟩), Value.bool d0.2.1, Value.slice A0_2 (d0.2.2.length) (c0_2)].toArray E0 (0, 0))), (102, mone g1 (.cells [str (d1)].toArray 9 (0, 0))), (0, mout (wm W) (mone g0 (.cells [Value.pointer ((d0.1).map fun g => ⟨g, 0, none⟩), Value.bool d0.2.1, Value.slice A0_2 (d0.2.2.length) (c0_2)].toArray E0 (0, 0))))]) 113 111 114 115 116 117 (fun g => muns [mone g7 (.cells [Value.bool (g.2.2)].toArray 4 (0, 0)), mone g5 (.cells [Value.bool (g.2.1)].toArray 4 (0, 0)), mone g3 (.cells [str ((g.1))].toArray 9 (0, 0))]) (fun at_ g => (getAt d0.2.2 d1 at_) ∧ (Seps (muns [mone g7 (.cells [Value.bool (g.2.2)].toArray 4 (0, 0)), mone g5 (.cells [Value.bool (g.2.1)].toArray 4 (0, 0)), mone g3 (.cells [str ((g.1))].toArray 9 (0, 0))]) [mone g7 (.cells [Value.bool (g.2.2)].toArray 4 (0, 0)), mone g5 (.cells [Value.bool (g.2.1)].toArray 4 (0, 0)), mone g3 (.cells [str ((g.1))].toArray 9 (0, 0))])) (fun e g => e = .ret ∧ (getR d0.2.2 d1 = ((g.1), (g.2.1), (g.2.2))) ∧ (Seps (muns [mone g7 (.cells [Value.bool (g.2.2)].toArray 4 (0, 0)), mone g5 (.cells [Value.bool (g.2.1)].toArray 4 (0, 0)), mone g3 (.cells [str ((g.1))].toArray 9 (0, 0))]) [mone g7 (.cells [Value.bool (g.2.2)].toArray 4 (0, 0)), mone g5 (.cells [Value.bool (g.2.1)].toArray 4 (0, 0)), mone g3 (.cells [str ((g.1))].toArray 9 (0, 0))])) ([], false, false) ⟨by exact getAt_0 _ _, hg12⟩ (fun _ _ => hit11) (.inr ⟨0, (.tail _ (.tail _ (.head _)))⟩) rfl rfl rfl (fun _ _ _ h => by obtain ⟨_, _, _, _, _, _, rfl, _⟩ := h; rfl) (Bx := Nat) (fun args B => [(8, Value.pointer (some ⟨B, 0, none⟩)), (0, Value.pointer (some ⟨g0, 0, none⟩)), (1, str (d1)), (3, Value.pointer (some ⟨g1, 0, none⟩)), (4, Value.pointer (some ⟨g3, 0, none⟩)), (5, Value.pointer (some ⟨g5, 0, none⟩)), (6, Value.pointer (some ⟨g7, 0, none⟩)), (11, Value.bool (decide (d0.1 = none)))]) (fun args B => [(118, mone B (.cells (aggC (args.getD 1 undef)) 32 (0, 0)))]) ?_ ?_ ?_ ?_
    · intro w1_ l_ at_ args_ mr_ Ω_ hE_
      obtain ⟨hE0_, hE1_, rfl, x_, cs_, hxa_, rfl, hrx_⟩ := hE_
      have hrx0_ := hrx_
      obtain ⟨xA_, xc_, rfl, hxf_, hxu_, hro_⟩ := open_Run (x0 := x_.1) (x1 := x_.2.1) (x2 := x_.2.2) hrx_
      simp only [inK] at hxf_ hxu_
      have hxr_ := Rd.room hro_
      have hxc_ := runCheck_ok (okU_all e0 x_ (List.mem_of_getElem? hxa_))
      have hup_ := hxc_.2.2.2.2
      refine VX.reg ?_
      refine VO.alloc 118 rfl tz32 (fun gB_ => ?_)
      refine VO.store (k := 3) (c' := [Value.int .i64 (x_.1), Value.int .i64 (x_.2.1), Value.slice xA_ (x_.2.2.length) (xc_)]) 118 rfl rfl (.inl tk32) rfl rfl rfl rfl rfl ?_
      refine VO.nil ?_
      exact ⟨rfl, rfl, gB_, ⟨rfl, rfl, rfl, rfl, rfl, rfl, rfl, rfl, trivial⟩, fun W_ hW_ => Inv.rot hW_⟩
    · -- FB
      rintro w1_ l_ D_ at_ ⟨val, met, th⟩ args_ mr_ ml_ mo_ gB_ ⟨hg, hSep_⟩ hE_
      replace hg : getAt d0.2.2 d1 at_ := hg
      replace hSep_ : Seps (muns [mone g7 (.cells [Value.bool th].toArray 4 (0, 0)), mone g5 (.cells [Value.bool met].toArray 4 (0, 0)), mone g3 (.cells [str (val)].toArray 9 (0, 0))]) [mone g7 (.cells [Value.bool th].toArray 4 (0, 0)), mone g5 (.cells [Value.bool met].toArray 4 (0, 0)), mone g3 (.cells [str (val)].toArray 9 (0, 0))] := hSep_
      obtain ⟨hE0_, hE1_, rfl, x_, cs_, hxa_, rfl, hrx_⟩ := hE_
      have hrx0_ := hrx_
      obtain ⟨xA_, xc_, rfl, hxf_, hxu_, hro_⟩ := open_Run (x0 := x_.1) (x1 := x_.2.1) (x2 := x_.2.2) hrx_
      simp only [inK] at hxf_ hxu_
      have hxr_ := Rd.room hro_
      have hxc_ := runCheck_ok (okU_all e0 x_ (List.mem_of_getElem? hxa_))
      have hup_ := hxc_.2.2.2.2
      refine VX.parts 113 [108, 106, 104] rfl hSep_ ?_
      show VX _ _ _ _ _ _ _ [(8, Value.pointer (some ⟨gB_, 0, none⟩)), (0, Value.pointer (some ⟨g0, 0, none⟩)), (1, str (d1)), (3, Value.pointer (some ⟨g1, 0, none⟩)), (4, Value.pointer (some ⟨g3, 0, none⟩)), (5, Value.pointer (some ⟨g5, 0, none⟩)), (6, Value.pointer (some ⟨g7, 0, none⟩)), (11, Value.bool (decide (d0.1 = none)))] [(108, mone g7 (.cells [Value.bool th].toArray 4 (0, 0))), (106, mone g5 (.cells [Value.bool met].toArray 4 (0, 0))), (104, mone g3 (.cells [str (val)].toArray 9 (0, 0))), (116, mnil), (117, mo_), (115, ml_), (114, mone D_ (.deferred (some []))), (1, mone g0 (.cells [Value.pointer ((d0.1).map fun g => ⟨g, 0, none⟩), Value.bool d0.2.1, Value.slice A0_2 (d0.2.2.length) (c0_2)].toArray E0 (0, 0))), (102, mone g1 (.cells [str (d1)].toArray 9 (0, 0))), (0, mout (wm W) (mone g0 (.cells [Value.pointer ((d0.1).map fun g => ⟨g, 0, none⟩), Value.bool d0.2.1, Value.slice A0_2 (d0.2.2.length) (c0_2)].toArray E0 (0, 0)))), (118, mone gB_ (.cells [Value.int .i64 (x_.1), Value.int .i64 (x_.2.1), Value.slice xA_ (x_.2.2.length) (xc_)].toArray 32 (0, 0)))]
      refine VX.block ?_
      refine VX.rs ?_
      refine VO.y rfl (.fa rfl tst32 rfl) ?_
      refine VO.y rfl (.ld1 118 rfl tk30 rfl (cellsAt_one rfl rfl)) ?_
      refine VO.y rfl (.lenS rfl tsl30) ?_
      refine VO.y rfl (.mkf rfl) ?_
      refine VO.callN 119 rfl fnOk47 rfl (fun W_ hW_ => search_ok (p1 := geK x_.2.2 d1) W_ x_.2.2.length bd fnOk48 (fun W2_ hW2_ i_ hi_ => get1_ok W2_ i_ (by omega) (d1 := x_) (Rd.mono hrx_ ((hW_.at (i := 0) rfl).trans hW2_)) ((hW_.at (i := 118) rfl).trans hW2_) (d2 := d1) (v2 := [str d1]) ⟨rfl, h1⟩ ((hW_.at (i := 102) rfl).trans hW2_) hi_) (by omega)) (fun v19 m19 hv19 => ?_)
      obtain ⟨kq19, rfl, hq1_19, hq2_19, hq3_19⟩ := hv19
      refine VO.as ?_
      refine VO.k9 0 1 3 4 5 6 8 9 11 ?_
      refine VX.seq ?_
      refine VX.regD _ 13 [(0, true), (1, true), (2, true), (3, true), (4, true), (5, true), (6, true), (7, true), (8, true), (9, true), (10, true), (11, true), (12, true)] follows (by kernel_rfl) (fun _ h => h.sub [119, 108, 106, 104, 116, 117, 115, 114, 1, 102, 0, 118]) ?_
      refine VD.y rfl rfl (.inl rfl) (.mv rfl) ?_
      refine VD.y rfl rfl (.inl rfl) (.fa rfl tst32 rfl) ?_
      refine VD.y rfl rfl (.inl rfl) (.ld1 118 rfl tk30 rfl (cellsAt_one rfl rfl)) ?_
      refine VD.y rfl rfl (.inl rfl) (.lenS rfl tsl30) ?_
      refine VD.y rfl rfl (.inl rfl) (.lss rfl rfl) ?_
      refine VD.y rfl rfl (.inl rfl) (.mv rfl) ?_
      refine VD.dec (s := 29) rfl (fun hc20 => ?_) (fun hc20 => ?_)
      · -- FBT
        refine VD.y rfl rfl (.inr ⟨_, _, rfl, _, rfl, rfl⟩) (.fa rfl tst32 rfl) ?_
        refine VD.y rfl rfl (.inr ⟨_, _, rfl, _, rfl, rfl⟩) (.ld1 118 rfl tk30 rfl (cellsAt_one rfl rfl)) ?_
        refine VD.y rfl rfl (.inr ⟨_, _, rfl, _, rfl, rfl⟩) (.mv rfl) ?_
        obtain ⟨x21, hx21⟩ : ∃ z_, (x_.2.2)[kq19]? = some z_ := ⟨_, List.getElem?_eq_getElem bd⟩
        obtain ⟨gg21, oo21, ec21, ea21, hce21, hre21⟩ := hro_.elem hx21
        cases ea21
        obtain ⟨rfl, q21_1, q21_2⟩ := open_Op (x0 := x21.1) (x1 := x21.2.1) (x2 := x21.2.2) hre21
        simp only [maxLen] at q21_1
        simp only [maxLen] at q21_2
        refine VD.y rfl rfl (.inr ⟨_, _, rfl, _, rfl, rfl⟩) (.ixI kq19 rfl rfl tsl30 rfl bd) ?_
        refine VD.y rfl rfl (.inr ⟨_, _, rfl, _, rfl, rfl⟩) (.fa rfl tst35 rfl) ?_
        refine VD.y rfl rfl (.inr ⟨_, _, rfl, _, rfl, rfl⟩) (.ld1 0 rfl tk9 rfl (hce21.at1 (j := 1) rfl)) ?_
        refine VD.y rfl rfl (.inr ⟨_, _, rfl, _, rfl, rfl⟩) (.ld1 102 rfl tk9 rfl (cellsAt_one rfl rfl)) ?_
        refine VD.nil rfl ?_ rfl
        refine VO.gy rfl ⟨_, rfl, rfl⟩ (.seql rfl rfl) ?_
        refine VO.y rfl (.pT rfl rfl) ?_
        refine VO.k10 0 1 3 4 5 6 8 9 11 38 ?_
        refine outN ?_
        refine VX.cond rfl (fun hc22 => ?_) (fun hc22 => ?_)
        · -- FBTT
          refine VX.seq ?_
          refine VX.inv _ (fun _ h => Inv.num h 106 2106 rfl) ?_
          refine VX.inv _ (fun _ h => Inv.num h 104 2104 rfl) ?_
          refine VX.regD _ 14 [(0, true), (1, true), (2, true), (3, true), (4, true), (5, true), (6, true), (7, true), (8, true), (9, true), (10, true), (11, true), (12, false), (13, false)] follows (by kernel_rfl) (fun _ h => h.sub [119, 108, 2106, 2104, 116, 117, 115, 114, 1, 102, 0, 118]) ?_
          refine VD.y rfl rfl (.inl rfl) (.fa rfl tst32 rfl) ?_
          refine VD.y rfl rfl (.inl rfl) (.ld1 118 rfl tk30 rfl (cellsAt_one rfl rfl)) ?_
          refine VD.y rfl rfl (.inl rfl) (.mv rfl) ?_
          refine VD.y rfl rfl (.inl rfl) (.ixI kq19 rfl rfl tsl30 rfl bd) ?_
          refine VD.y rfl rfl (.inl rfl) (.fa rfl tst35 rfl) ?_
          refine VD.y rfl rfl (.inl rfl) (.ld1 0 rfl tk9 rfl (hce21.at1 (j := 2) rfl)) ?_
          refine VD.y rfl rfl (.inl rfl) (.fa rfl tst32 rfl) ?_
          refine VD.y rfl rfl (.inl rfl) (.ld1 118 rfl tk30 rfl (cellsAt_one rfl rfl)) ?_
          refine VD.y rfl rfl (.inl rfl) (.mv rfl) ?_
          refine VD.y rfl rfl (.inl rfl) (.ixI kq19 rfl rfl tsl30 rfl bd) ?_
          refine VD.y rfl rfl (.inl rfl) (.fa rfl tst35 rfl) ?_
          refine VD.y rfl rfl (.inl rfl) (.ld1 0 rfl tk4 rfl (hce21.at1 (j := 0) rfl)) ?_
          refine VD.storeH (k := 1) (c' := [str (x21.2.2)]) 2104 rfl rfl rfl (.inr ⟨tk9, rfl⟩) rfl rfl rfl rfl rfl (fun _ h => h.sub [119, 108, 116, 117, 115, 114, 1, 102, 0, 118]) ?_
          refine VD.storeH (k := 1) (c' := [Value.bool true]) 2106 rfl rfl rfl (.inr ⟨tk4, rfl⟩) rfl rfl rfl rfl rfl (fun _ h => h.sub [119, 108, 116, 117, 115, 114, 1, 102, 0, 118]) ?_
          refine VD.nil rfl ?_ rfl
          refine VO.store (k := 1) (c' := [Value.bool x21.1]) 108 rfl rfl (.inr ⟨tk4, rfl⟩) rfl rfl rfl rfl rfl ?_
          refine VO.kp [108, 2106, 2104, 117, 115, 114, 1, 102, 0, 118] [(108, mone g7 (.cells [Value.bool x21.1].toArray 4 (0, 0))), (2106, mone g5 (.cells [Value.bool true].toArray 4 (0, 0))), (2104, mone g3 (.cells [str (x21.2.2)].toArray 9 (0, 0))), (117, mo_), (115, ml_), (114, mone D_ (.deferred (some []))), (1, mone g0 (.cells [Value.pointer ((d0.1).map fun g => ⟨g, 0, none⟩), Value.bool d0.2.1, Value.slice A0_2 (d0.2.2.length) (c0_2)].toArray E0 (0, 0))), (102, mone g1 (.cells [str (d1)].toArray 9 (0, 0))), (0, mout (wm W) (mone g0 (.cells [Value.pointer ((d0.1).map fun g => ⟨g, 0, none⟩), Value.bool d0.2.1, Value.slice A0_2 (d0.2.2.length) (c0_2)].toArray E0 (0, 0)))), (118, mone gB_ (.cells [Value.int .i64 (x_.1), Value.int .i64 (x_.2.1), Value.slice (some ⟨gg21, oo21, none⟩) (x_.2.2.length) (xc_)].toArray 32 (0, 0)))] ?_
          refine VO.k10 0 1 3 4 5 6 8 9 11 38 ?_
          refine outN ?_
          refine VX.ret ?_
          refine outBR ?_
          exact ⟨rfl, fun W_ hW_ => ⟨⟨x21.2.2, true, x21.1⟩, (hW_.gather (ids := [108, 2106, 2104]) 113 rfl).1.sub [117, 115, 113, 114, 1, 102, 0], .inr ⟨rfl, rfl, by exact getAt_hit hg hE0_ hxa_ (find_at hup_ ‹x_.2.2[kq19]? = some _› (by assumption)), (hW_.gather (ids := [108, 2106, 2104]) 113 rfl).2⟩⟩⟩
        · -- FBTF
          refine VX.skip ?_
          refine outBN ?_
          exact ⟨rfl, fun W_ hW_ => ⟨⟨val, met, th⟩, (hW_.gather (ids := [108, 106, 104]) 113 rfl).1.sub [117, 115, 113, 114, 1, 102, 0], .inl ⟨rfl, by exact getAt_next hg hE0_ hxa_ (find_not hup_ hq1_19 hq2_19 hq3_19 (by intro y_ hy_; first | (exfalso; have h_ := (List.getElem?_eq_some_iff.1 hy_).1; omega) | (rw [hx21] at hy_; cases hy_; assumption))), (hW_.gather (ids := [108, 106, 104]) 113 rfl).2⟩⟩⟩
      · -- FBF
        refine VD.gn rfl rfl (.inl ⟨_, rfl, rfl⟩) ?_
        refine VD.gn rfl rfl (.inl ⟨_, rfl, rfl⟩) ?_
        refine VD.gn rfl rfl (.inl ⟨_, rfl, rfl⟩) ?_
        refine VD.gn rfl rfl (.inl ⟨_, rfl, rfl⟩) ?_
        refine VD.gn rfl rfl (.inl ⟨_, rfl, rfl⟩) ?_
        refine VD.gn rfl rfl (.inl ⟨_, rfl, rfl⟩) ?_
        refine VD.gn rfl rfl (.inl ⟨_, rfl, rfl⟩) ?_
        refine VD.nil rfl ?_ rfl
        refine VO.gN ?_
        refine VO.y rfl (.pF rfl rfl) ?_
        refine VO.k10 0 1 3 4 5 6 8 9 11 38 ?_
        refine outN ?_
        refine VX.condF rfl ?_
        refine VX.skip ?_
        refine outBN ?_
        exact ⟨rfl, fun W_ hW_ => ⟨⟨val, met, th⟩, (hW_.gather (ids := [108, 106, 104]) 113 rfl).1.sub [117, 115, 113, 114, 1, 102, 0], .inl ⟨rfl, by exact getAt_next hg hE0_ hxa_ (find_not hup_ hq1_19 hq2_19 hq3_19 (by intro y_ hy_; first | (exfalso; have h_ := (List.getElem?_eq_some_iff.1 hy_).1; omega) | (rw [hx21] at hy_; cases hy_; assumption))), (hW_.gather (ids := [108, 106, 104]) 113 rfl).2⟩⟩⟩
    · -- FD
      rintro D_ at_ ⟨val, met, th⟩ ⟨hg, hSep_⟩ hDn_
      replace hg : getAt d0.2.2 d1 at_ := hg
      replace hSep_ : Seps (muns [mone g7 (.cells [Value.bool th].toArray 4 (0, 0)), mone g5 (.cells [Value.bool met].toArray 4 (0, 0)), mone g3 (.cells [str (val)].toArray 9 (0, 0))]) [mone g7 (.cells [Value.bool th].toArray 4 (0, 0)), mone g5 (.cells [Value.bool met].toArray 4 (0, 0)), mone g3 (.cells [str (val)].toArray 9 (0, 0))] := hSep_
      refine outBN ?_
      refine outN ?_
      refine VX.parts 113 [108, 106, 104] rfl hSep_ ?_
      show VX _ _ _ _ _ _ _ [(0, Value.pointer (some ⟨g0, 0, none⟩)), (1, str (d1)), (3, Value.pointer (some ⟨g1, 0, none⟩)), (4, Value.pointer (some ⟨g3, 0, none⟩)), (5, Value.pointer (some ⟨g5, 0, none⟩)), (6, Value.pointer (some ⟨g7, 0, none⟩)), (11, Value.bool (decide (d0.1 = none))), (16, Value.func (.func 78) #[] ca11.toArray)] [(108, mone g7 (.cells [Value.bool th].toArray 4 (0, 0))), (106, mone g5 (.cells [Value.bool met].toArray 4 (0, 0))), (104, mone g3 (.cells [str (val)].toArray 9 (0, 0))), (114, mone D_ (.deferred (some []))), (1, mone g0 (.cells [Value.pointer ((d0.1).map fun g => ⟨g, 0, none⟩), Value.bool d0.2.1, Value.slice A0_2 (d0.2.2.length) (c0_2)].toArray E0 (0, 0))), (102, mone g1 (.cells [str (d1)].toArray 9 (0, 0))), (0, mout (wm W) (mone g0 (.cells [Value.pointer ((d0.1).map fun g => ⟨g, 0, none⟩), Value.bool d0.2.1, Value.slice A0_2 (d0.2.2.length) (c0_2)].toArray E0 (0, 0))))]
      refine VX.rs ?_
      refine VO.store (k := 1) (c' := [str ([])]) 104 rfl rfl (.inr ⟨tk9, rfl⟩) rfl rfl rfl rfl rfl ?_
      refine VO.store (k := 1) (c' := [Value.bool false]) 106 rfl rfl (.inr ⟨tk4, rfl⟩) rfl rfl rfl rfl rfl ?_
      refine VO.store (k := 1) (c' := [Value.bool false]) 108 rfl rfl (.inr ⟨tk4, rfl⟩) rfl rfl rfl rfl rfl ?_
      refine VO.k8 0 1 3 4 5 6 11 16 ?_
      refine VX.ret ?_
      refine ⟨114, rfl, ?_⟩
      refine ⟨_, _, res_run (rs := [.cell 4 9, .cell 5 4, .cell 6 4]) rfl (.one 104 rfl tk9 rfl ⟨_, _, _, mone_self _ _, rfl⟩ (.one 106 rfl tk4 rfl ⟨_, _, _, mone_self _ _, rfl⟩ (.one 108 rfl tk4 rfl ⟨_, _, _, mone_self _ _, rfl⟩ .nil))), fun W_ hI => out_of (l := [mone g0 (.cells [Value.pointer ((d0.1).map fun g => ⟨g, 0, none⟩), Value.bool d0.2.1, Value.slice A0_2 (d0.2.2.length) (c0_2)].toArray E0 (0, 0))]) hI [1] rfl rfl (mle_refl _) (fun hS_ => ?_)⟩
      dsimp only [packV]
      refine ⟨?_, ?_⟩
      rotate_left
      · rw [muns_one]
      all_goals (first | rfl | (first | (rw [hs] <;> first | done | rfl) | (rw [getAt_end hg hDn_] <;> first | done | rfl)))
    · -- FX
      rintro D_ _ ⟨val, met, th⟩ ⟨rfl, hs, hSep_⟩ _
      replace hs : getR d0.2.2 d1 = (val, met, th) := hs
      replace hSep_ : Seps (muns [mone g7 (.cells [Value.bool th].toArray 4 (0, 0)), mone g5 (.cells [Value.bool met].toArray 4 (0, 0)), mone g3 (.cells [str (val)].toArray 9 (0, 0))]) [mone g7 (.cells [Value.bool th].toArray 4 (0, 0)), mone g5 (.cells [Value.bool met].toArray 4 (0, 0)), mone g3 (.cells [str (val)].toArray 9 (0, 0))] := hSep_
      refine outBR ?_
      refine outR ?_
      refine ⟨114, rfl, ?_⟩
      refine ⟨_, _, res_run (rs := [.cell 4 9, .cell 5 4, .cell 6 4]) rfl (.one 113 rfl tk9 rfl ⟨_, _, _, hSep_.1 _ (.tail _ (.tail _ (.head _))) _ _ (mone_self _ _), rfl⟩ (.one 113 rfl tk4 rfl ⟨_, _, _, hSep_.1 _ (.tail _ (.head _)) _ _ (mone_self _ _), rfl⟩ (.one 113 rfl tk4 rfl ⟨_, _, _, hSep_.1 _ (.head _) _ _ (mone_self _ _), rfl⟩ .nil))), fun W_ hI => out_of (l := [mone g0 (.cells [Value.pointer ((d0.1).map fun g => ⟨g, 0, none⟩), Value.bool d0.2.1, Value.slice A0_2 (d0.2.2.length) (c0_2)].toArray E0 (0, 0))]) hI [1] rfl rfl (mle_refl _) (fun hS_ => ?_)⟩
      dsimp only [packV]
      refine ⟨?_, ?_⟩
      rotate_left
      · rw [muns_one]
      all_goals (first | rfl | (first | (rw [hs] <;> first | done | rfl) | (rw [getAt_end hg hDn_] <;> first | done | rfl)))
theorem tRd_there {t : Bytes} {m : Int} (h : (t.length : Int) ≤ m) (hm : m ≤ 1000) (s : Bytes) : tRd (venc t.length ++ (t ++ s)) m = (t, ((venc t.length ++ t).length : Int), true) := by
  obtain ⟨a1, a2, a3⟩ := s_there (x := t.length) (m := m) h (by omega) (t ++ s)
  unfold tRd
  rw [a1, a2, a3, if_pos ⟨rfl, by simp only [List.length_append]; omega⟩, List.drop_left, List.take_left]
  simp only [List.length_append, Int.natCast_add]
theorem opRd_there {o : DOp} (h : opOk o) (s : Bytes) : opRd (opEnc o ++ s) = (o, ((opEnc o).length : Int), 0) := by
  obtain ⟨p, k, v⟩ := o
  have hc := opCheck_good h
  obtain ⟨h1, h2, h3, h4⟩ := h
  dsimp only at h1 h2 h3 h4
  cases p with
  | true =>
    have e : opEnc (true, k, v) ++ s = 1 :: (venc k.length ++ (k ++ (venc v.length ++ (v ++ s)))) := by simp [opEnc]
    have t1 := tRd_there (t := k) (m := 16) (by omega) (by decide) (venc v.length ++ (v ++ s))
    have hd : (1 :: (venc k.length ++ (k ++ (venc v.length ++ (v ++ s)))) : Bytes).drop (1 + ((venc k.length ++ k).length : Int)).toNat = venc v.length ++ (v ++ s) := by
      rw [show (1 + ((venc k.length ++ k).length : Int)).toNat = (venc k.length ++ k).length + 1 by omega, List.drop_succ_cons, ← List.append_assoc, List.drop_left]
    have t2 := tRd_there (t := v) (m := 32) (by omega) (by decide) s
    have d1 : (1 :: (venc k.length ++ (k ++ (venc v.length ++ (v ++ s)))) : Bytes).drop 1 = venc k.length ++ (k ++ (venc v.length ++ (v ++ s))) := rfl
    rw [e, opRd_put (x := 1) (by simp; omega) rfl (by decide) (by rw [d1, t1]) (by decide) (by rw [d1, t1, hd, t2])]
    rw [d1, t1, hd, t2, show decide (((1 : UInt8).toNat : Int) = 1) = true from rfl, opEnd_good (not_not_intro hc)]
    simp only [opEnc, if_true, List.length_cons, List.length_append, Prod.mk.injEq, true_and, and_true]
    omega
  | false =>
    have hv : v = [] := by rcases h4 with h4 | h4; exact absurd h4 (by decide); exact h4
    subst hv
    have e : opEnc (false, k, []) ++ s = 0 :: (venc k.length ++ (k ++ s)) := by simp [opEnc]
    have t1 := tRd_there (t := k) (m := 16) (by omega) (by decide) s
    have d1 : (0 :: (venc k.length ++ (k ++ s)) : Bytes).drop 1 = venc k.length ++ (k ++ s) := rfl
    rw [e, opRd_del (x := 0) (by simp; omega) rfl (by decide) (by rw [d1, t1]) (by decide)]
    rw [d1, t1, show decide (((0 : UInt8).toNat : Int) = 1) = false from rfl, opEnd_good (not_not_intro hc)]
    simp only [opEnc, Bool.false_eq_true, if_false, List.length_cons, List.length_append, List.length_nil, Prod.mk.injEq, true_and, and_true]
    omega
theorem rdOps_there : ∀ {l : List DOp} (s : Bytes), (∀ o ∈ l, opCheck o = 0) → rdOps l.length ((l.map opEnc).flatten ++ s) = some (l, s)
  | [], s, _ => rfl
  | o :: l, s, h => by
    have e : (((o :: l).map opEnc).flatten ++ s) = opEnc o ++ ((l.map opEnc).flatten ++ s) := by simp
    have h1 := opRd_there (opOk_of (h o (.head _))) ((l.map opEnc).flatten ++ s)
    rw [e, List.length_cons, rdOps, h1, if_pos rfl]
    dsimp only
    rw [Int.toNat_natCast, List.drop_left, rdOps_there s fun x hx => h x (.tail _ hx)]; rfl
theorem runDec_there {r : DRun} (h : runCheck r = 0) : runDecode (runBody r) = (r, 0) := by
  obtain ⟨x, y, l⟩ := r
  have hk := runCheck_ok h
  obtain ⟨h1, h2, h3, h4, h5⟩ := hk
  dsimp only at h1 h2 h3 h4 h5
  obtain ⟨a1, a2, a3⟩ := s_there (x := x.toNat) (m := bMx) (show ((x.toNat : Nat) : Int) ≤ 1048576 by omega) (by decide) (venc y.toNat ++ (venc l.length ++ (l.map opEnc).flatten))
  obtain ⟨b1, b2, b3⟩ := s_there (x := y.toNat) (m := bMx) (show ((y.toNat : Nat) : Int) ≤ 1048576 by omega) (by decide) (venc l.length ++ (l.map opEnc).flatten)
  obtain ⟨c1, c2, c3⟩ := s_there (x := l.length) (m := 1024) (by omega) (by decide) ((l.map opEnc).flatten)
  have e1 : dB1 (runBody (x, y, l)) = venc y.toNat ++ (venc l.length ++ (l.map opEnc).flatten) := by
    show (runBody (x, y, l)).drop _ = _
    unfold runBody; dsimp only; rw [a2, List.drop_left]
  have e2 : dB2 (runBody (x, y, l)) = venc l.length ++ (l.map opEnc).flatten := by
    show (dB1 (runBody (x, y, l))).drop _ = _
    rw [e1, b2, List.drop_left]
  have z1 : sE (runBody (x, y, l)) bMx = 0 := a3
  have z2 : sX (runBody (x, y, l)) bMx = x.toNat := a1
  rw [runDec_go (not_not_intro z1) (by rw [e1]; exact not_not_intro b3) (by rw [e2]; exact not_not_intro c3), z2, e1, e2, b1]
  unfold runDec3
  rw [c1, c2, List.drop_left, show (l.map opEnc).flatten = (l.map opEnc).flatten ++ [] by simp, rdOps_there [] h5.1]
  dsimp only
  rw [show ((x.toNat : Nat) : Int) = x by omega, show ((y.toNat : Nat) : Int) = y by omega]
  exact if_pos h
section
variable {l m all : List DRun} {r x : DRun} {B s : Bytes} {n : Nat}
theorem rFrames_cons : rFrames (r :: l) = rFrame r ++ rFrames l := rfl
theorem rFrames_app : rFrames (l ++ m) = rFrames l ++ rFrames m := by simp [rFrames]
theorem rFrames_one : rFrames [r] = rFrame r := by simp [rFrames]
theorem rFrame_there (h : runCheck r = 0) (s : Bytes) : fRead (rFrame r ++ s) = (runBody r, ((rFrame r).length : Int), 0) := fRead_there (by have := runBody_len h; omega) s
theorem chain_drop : ∀ {n : Nat} {l : List DRun} {e : Int}, chainU e l → ∀ {x}, l[n]? = some x → x.1 = (match (l.take n).getLast? with | some y => y.2.1 | none => e) + 1
  | 0, y :: l, e, h, x, hx => by cases hx; exact h.2.1
  | n + 1, y :: l, e, h, x, hx => by
    have h1 := chain_drop (n := n) h.2.2 (by simpa using hx)
    have h2 : (match ((y :: l).take (n + 1)).getLast? with | some x => x.2.1 | none => e) = (match (l.take n).getLast? with | some z => z.2.1 | none => y.2.1) := by
      rw [List.take_succ_cons]
      cases l.take n with
      | nil => rfl
      | cons z t => rw [List.getLast?_cons_cons]; cases h : (z :: t).getLast? <;> simp_all
    rw [h2]; exact h1
  | _, [], _, _, _, hx => by simp at hx
theorem next_from (h : okU all) (hx : all[n]? = some x) : x.1 = endR (all.take n) + 1 := chain_drop h hx
theorem rstep_ok (h : okU all) (hx : all[n]? = some x) (hB : B.drop (rFrames (all.take n)).length = rFrame x ++ s) : runOkAt (endR (all.take n)) (B.drop (rFrames (all.take n)).length) ∧ (runDecode (fRead (B.drop (rFrames (all.take n)).length)).1).1 = x ∧ (fRead (B.drop (rFrames (all.take n)).length)).2.1 = ((rFrame x).length : Int) := by
  have hc := okU_all h x (List.mem_of_getElem? hx)
  have h1 := rFrame_there hc s
  have h2 := runDec_there hc
  rw [hB, h1]; dsimp only
  refine ⟨⟨by rw [h1], by rw [h1]; dsimp only; rw [h2], by rw [h1]; dsimp only; rw [h2]; exact next_from h hx⟩, by rw [h2], rfl⟩
/-- the frame ahead is not all there: nothing more is read -/
theorem rstep_no (h : okU all) (hn : n ≤ all.length) (hp : rFrames (all.take n) <+: B) (hB : B <+: rFrames all) (hx : ∀ x, all[n]? = some x → ¬ rFrames (all.take n) ++ rFrame x <+: B) {e : Int} : ¬ runOkAt e (B.drop (rFrames (all.take n)).length) := by
  rintro ⟨q1, _, _⟩
  obtain ⟨t, ht⟩ := hp
  obtain ⟨u, hu⟩ := hB
  have hd : B.drop (rFrames (all.take n)).length = t := by rw [← ht, List.drop_left]
  rw [hd] at q1
  obtain ⟨b1, b2, b3⟩ := fRead_back q1
  have e2 : t ++ u = rFrames (all.drop n) := by
    have : rFrames (all.take n) ++ (t ++ u) = rFrames (all.take n) ++ rFrames (all.drop n) := by rw [← List.append_assoc, ht, hu, ← rFrames_app, List.take_append_drop]
    exact List.append_cancel_left this
  cases hg : all[n]? with
  | none =>
    have : all.length ≤ n := List.getElem?_eq_none_iff.1 hg
    rw [List.drop_of_length_le this] at e2
    have e3 : t = [] := (List.append_eq_nil_iff.1 e2).1
    have := fRead_bounds t
    have h5 := this.2.2.2.2.1 q1
    rw [e3] at this h5; simp at this; omega
  | some x =>
    have hc := okU_all h x (List.mem_of_getElem? hg)
    rw [drop_cons hg, rFrames_cons] at e2
    have f1 := rFrame_there hc (rFrames (all.drop (n + 1)))
    rw [← e2, b1, List.append_assoc, fRead_there b3] at f1
    have e4 : (fRead t).1 = runBody x := congrArg Prod.fst f1
    refine hx x hg ⟨t.drop (fRead t).2.1.toNat, ?_⟩
    rw [List.append_assoc, ← ht]; congr 1
    conv => rhs; rw [b1, e4]
    rfl
theorem runGo_front (h : okU all) (hB : B <+: rFrames all) : ∀ (k n : Nat), n ≤ all.length → rFrames (all.take n) <+: B → B.length ≤ (rFrames (all.take n)).length + k →
    ∃ m, n ≤ m ∧ m ≤ all.length ∧ (runGo k B (all.take n) ((rFrames (all.take n)).length : Int)) = (all.take m, ((rFrames (all.take m)).length : Int)) ∧ rFrames (all.take m) <+: B ∧ ∀ x, all[m]? = some x → ¬ rFrames (all.take m) ++ rFrame x <+: B
  | 0, n, hn, hp, hk => ⟨n, Nat.le_refl _, hn, rfl, hp, fun x hx hq => by
    have h1 := hq.length_le
    have h2 := (rFrame_len (okU_all h x (List.mem_of_getElem? hx))).2
    rw [List.length_append] at h1; omega⟩
  | k + 1, n, hn, hp, hk => by
    by_cases hq : ∃ x, all[n]? = some x ∧ rFrames (all.take n) ++ rFrame x <+: B
    · obtain ⟨x, hx, s, hs⟩ := hq
      have hd : B.drop (rFrames (all.take n)).length = rFrame x ++ s := by rw [← hs, List.append_assoc, List.drop_left]
      obtain ⟨o1, o2, o3⟩ := rstep_ok h hx hd
      have hl := (List.getElem?_eq_some_iff.1 hx).1
      have e1 : all.take (n + 1) = all.take n ++ [x] := take_one hx
      have e2 : rFrames (all.take (n + 1)) = rFrames (all.take n) ++ rFrame x := by rw [e1, rFrames_app, rFrames_one]
      have h3 := (rFrame_len (okU_all h x (List.mem_of_getElem? hx))).2
      obtain ⟨m, m1, m2, m3, m4, m5⟩ := runGo_front h hB k (n + 1) (by omega) (by rw [e2]; exact ⟨s, hs⟩) (by rw [e2, List.length_append]; omega)
      refine ⟨m, by omega, m2, ?_, m4, m5⟩
      rw [runGo, Int.toNat_natCast, if_pos o1, o2, o3, ← e1]
      rw [e2, List.length_append, Int.natCast_add] at m3
      exact m3
    · have hx : ∀ x, all[n]? = some x → ¬ rFrames (all.take n) ++ rFrame x <+: B := fun x hx hp => hq ⟨x, hx, hp⟩
      refine ⟨n, Nat.le_refl _, hn, ?_, hp, hx⟩
      rw [runGo, Int.toNat_natCast, if_neg (rstep_no h hn hp hB hx)]
theorem runF_front (h : okU all) (hB : B <+: rFrames all) : ∃ m, m ≤ all.length ∧ runF B = (all.take m, ((rFrames (all.take m)).length : Int)) ∧ rFrames (all.take m) <+: B ∧ ∀ x, all[m]? = some x → ¬ rFrames (all.take m) ++ rFrame x <+: B := by
  obtain ⟨m, _, m2, m3, m4, m5⟩ := runGo_front h hB B.length 0 (Nat.zero_le _) (by simp [rFrames]) (by simp [rFrames])
  exact ⟨m, m2, m3, m4, m5⟩
theorem frames_mono {a b : Nat} (h : a ≤ b) : rFrames (l.take a) <+: rFrames (l.take b) := by
  have e : l.take b = l.take a ++ (l.take b).drop a := by
    have := List.take_append_drop a (l.take b)
    rwa [List.take_take, Nat.min_eq_left h, eq_comm] at this
  rw [e, rFrames_app]; exact List.prefix_append _ _
theorem run_front (h : okU all) (hB : B <+: rFrames all) {sure : List DRun} (hs : sure <+: all) (hS : rFrames sure <+: B) : (runF B).1 <+: all ∧ sure <+: (runF B).1 := by
  obtain ⟨m, m2, m3, m4, m5⟩ := runF_front h hB
  rw [m3]; refine ⟨List.take_prefix _ _, ?_⟩
  have e := prefix_take hs
  rcases Nat.lt_or_ge m sure.length with q | q
  · exfalso
    have hl := hs.length_le
    obtain ⟨x, hx⟩ : ∃ x, all[m]? = some x := ⟨_, List.getElem?_eq_getElem (by omega)⟩
    refine m5 x hx ?_
    have e1 : rFrames (all.take (m + 1)) = rFrames (all.take m) ++ rFrame x := by rw [take_one hx, rFrames_app, rFrames_one]
    rw [← e1]
    refine (frames_mono (l := all) (show m + 1 ≤ sure.length by omega)).trans ?_
    rw [← e]; exact hS
  · rw [e]; exact List.take_prefix_take_left q
end
structure Hd2 (d : DDisk) (B : Bytes) : Prop where
  on : Onn d
  cur : getF (curD d) 2 = B
section
variable {d : DDisk} {B b : Bytes} {n : Int} {l all sure : List DRun} {x : DRun} {k t : Int}
theorem h2_cut (h : Hd2 d B) (hn : 0 ≤ n) (hl : n ≤ B.length) : (dCut d 2 n).2 = 0 ∧ Hd2 (dCut d 2 n).1 (B.take n.toNat) := by
  obtain ⟨h1, h2, h3, _⟩ := on_cut (f := 2) (n := n) h.on (by decide) hn (by rw [h.cur]; exact hl)
  exact ⟨h1, h2, by rw [h3, get_set (by decide) (by decide), if_pos rfl, h.cur]⟩
theorem h2_sync (h : Hd2 d B) : (dSync d).2 = 0 ∧ Hd2 (dSync d).1 B := by
  obtain ⟨h1, h2, h3, h4⟩ := on_sync h.on
  exact ⟨h1, h2, by rw [cur_none h4, h3, h.cur]⟩
theorem h2_read (h : Hd2 d B) : dRead d 2 = (B, 0) := by rw [on_read h.on (by decide), h.cur]
theorem h2_held (h : Hd2 d B) : heldB d.2.2.2.2.2.1 d.2.2.2.2.2.2 2 = B := by rw [cur_held h.on.ok (by decide), h.cur]
theorem h2_open (h : Hd2 d B) : (uOpen d).2 = 0 ∧ (runF (dRead d 2).1).1 = (runF B).1 := by
  have hb := runF_bounds B
  unfold uOpen; rw [if_neg (not_not_intro (onn_right h.on)), h2_read h]
  refine ⟨?_, rfl⟩
  dsimp only
  unfold tornD; rw [h2_held h]
  split
  · rfl
  · obtain ⟨h1, h2⟩ := h2_cut h hb.1 hb.2.1
    rw [if_neg (not_not_intro h1)]; exact (h2_sync h2).1
/-- all is flushed; the disk is on -/
def Ku (d : DDisk) (l : List DRun) : Prop := d.2.1 = false ∧ okU l ∧ ∃ A, Pg d A A ∧ getF A 2 = rFrames l
/-- the disk may be off -/
def Kq (d : DDisk) (all sure : List DRun) : Prop := okU all ∧ sure <+: all ∧ ∃ A S, Pg d A S ∧ getF A 2 <+: rFrames all ∧ getF S 2 = rFrames sure
/-- it is started again -/
def Kr (d : DDisk) (all sure : List DRun) : Prop := okU all ∧ sure <+: all ∧ ∃ B, Hd2 d B ∧ rFrames sure <+: B ∧ B <+: rFrames all
theorem ku_new : Ku newD [] := ⟨rfl, okU_nil, ([], [], [], []), pg_none ⟨okD_new, rfl, rfl, rfl⟩ rfl, rfl⟩
theorem ku_on (h : Ku d l) : onD d := by
  obtain ⟨h1, h2, A, h4, h5⟩ := h
  exact ⟨h4.made, h1⟩
theorem ku_kq (h : Ku d l) : Kq d l l := by
  obtain ⟨h1, h2, A, h4, h5⟩ := h
  exact ⟨h2, List.prefix_refl _, A, A, h4, by rw [h5]; exact List.prefix_refl _, h5⟩
theorem ku_ok (h : Ku d l) : okD d := by
  obtain ⟨h1, h2, A, h4, h5⟩ := h
  exact h4.ok
theorem ku_flush (h : Ku d l) (hc : runCheck x = 0) (hx : x.1 = endR l + 1) :
    ((uFlush d false l x).2 = 0 ∧ Ku (uFlush d false l x).1.1 (l ++ [x]) ∧ (uFlush d false l x).1.2 = (false, l ++ [x])) ∨ ((uFlush d false l x).2 = 6 ∧ Kq (uFlush d false l x).1.1 (l ++ [x]) l ∧ (uFlush d false l x).1.2 = (true, l)) := by
  have ho := ku_on h
  obtain ⟨o1, o2, A, o4, o5⟩ := h
  have hl := okU_snoc o2 hc hx
  have e0 : ∀ (br : Bool), ¬ (false = true ∨ ¬ onD d) := fun _ q => q.elim (by decide) (· ho)
  unfold uFlush
  rw [if_neg (e0 false), if_neg (not_not_intro hc), if_neg (not_not_intro hx)]
  obtain ⟨p, p1, p2, p3⟩ := pg_write (f := 2) (b := rFrame x) o4 o1 (by decide)
  have e : getF (setF A 2 (getF A 2 ++ p)) 2 = rFrames l ++ p := by rw [get_set (by decide) (by decide), if_pos rfl, o5]
  rcases p3 with ⟨q1, q2, q3⟩ | ⟨q1, q2⟩
  · rw [if_neg (not_not_intro q1)]
    subst q2
    rcases pg_sync p2 q3 with ⟨r1, r2, r3, r4⟩ | ⟨r1, r2, r3⟩
    · rw [if_neg (not_not_intro r1)]
      left; exact ⟨rfl, ⟨r3, hl, _, r2, by rw [e, rFrames_app, rFrames_one]⟩, rfl⟩
    · rw [if_pos (by rw [r1]; decide)]
      right; exact ⟨r1, ⟨hl, List.prefix_append _ _, _, A, r2, by rw [e, rFrames_app, rFrames_one]; exact List.prefix_refl _, o5⟩, rfl⟩
  · rw [if_pos (by rw [q1]; decide)]
    right; exact ⟨q1, ⟨hl, List.prefix_append _ _, _, A, p2, by rw [e, rFrames_app, rFrames_one]; exact (List.prefix_append_right_inj _).2 p1, o5⟩, rfl⟩
theorem kq_pull (h : Kq d all sure) (ho : d.1 = true ∧ d.2.1 = false) : (dPull d).2 = 0 ∧ Kq (dPull d).1 all sure ∧ (dPull d).1.2.1 = true := by
  obtain ⟨h2, h3, A, S, h4, h5, h6⟩ := h
  obtain ⟨a, b, c⟩ := pg_pull h4 ho.2
  exact ⟨a, ⟨h2, h3, A, S, b, h5, h6⟩, c⟩
theorem kq_start (h : Kq d all sure) (ho : d.2.1 = true) (hk : 0 ≤ k) (ht : 0 ≤ t) : (dStart d k t).2 = 0 ∧ Kr (dStart d k t).1 all sure := by
  obtain ⟨h2, h3, A, S, h4, h5, h6⟩ := h
  obtain ⟨a, b⟩ := pg_start h4 ho hk ht
  refine ⟨a, h2, h3, _, ⟨b.on, by rw [pe_pf b]⟩, ?_, ?_⟩
  · have := b.lo 2 (by decide); rw [h6] at this; exact this
  · exact (b.hi 2 (by decide)).trans h5
theorem kr_open (h : Kr d all sure) : (uOpen d).2 = 0 ∧ (runF (dRead d 2).1).1 <+: all ∧ sure <+: (runF (dRead d 2).1).1 := by
  obtain ⟨h1, h2, B, h3, h4, h5⟩ := h
  obtain ⟨o1, o3⟩ := h2_open h3
  obtain ⟨f1, f2⟩ := run_front h1 h5 h2 h4
  rw [o3]; exact ⟨o1, f1, f2⟩
theorem kr_two (h : Kr d all sure) (hl : all.length ≤ sure.length + 1) : (runF (dRead d 2).1).1 = sure ∨ (runF (dRead d 2).1).1 = all := by
  obtain ⟨_, h1, h2⟩ := kr_open h
  have e1 := h1.length_le; have e2 := h2.length_le
  rcases Nat.lt_or_ge (runF (dRead d 2).1).1.length all.length with q | q
  · exact .inl (h2.eq_of_length (by omega)).symm
  · exact .inr (h1.eq_of_length (by omega))
end
def goOne (put : Bool) : List DOp → DOp → List DOp
  | [], o => if put then [] else [o]
  | x :: t, o => (if put = false ∧ ¬ kl x.2.1 o.2.1 then [o] else []) ++ ((if ¬ x.2.1 = o.2.1 then [x] else []) ++ goOne (put || decide (¬ kl x.2.1 o.2.1)) t o)
def tOne (t : List DOp) (o : DOp) : List DOp := goOne false t o
section
variable {t l : List DOp} {o x : DOp} {k : Nat}
theorem goOne_true : ∀ {t : List DOp}, (∀ x ∈ t, ¬ x.2.1 = o.2.1) → goOne true t o = t
  | [], _ => rfl
  | x :: t, h => by
    rw [goOne, if_neg (fun q => by cases q.1), if_pos (h x (.head _)), Bool.true_or, goOne_true fun y hy => h y (.tail _ hy)]; rfl
theorem goOne_lt (h : kl x.2.1 o.2.1) : goOne false (x :: t) o = x :: goOne false t o := by
  rw [goOne, if_neg (fun q => q.2 h), if_pos (kl_ne h), decide_eq_false (not_not_intro h)]; rfl
theorem after_ne (h : opsUp (x :: t)) (hk : ¬ kl x.2.1 o.2.1) : ∀ y ∈ t, kl o.2.1 y.2.1 := fun y hy => kl_le_lt hk ((List.pairwise_cons.1 h.2).1 y hy)
theorem goOne_eq (h : opsUp (x :: t)) (hk : x.2.1 = o.2.1) : goOne false (x :: t) o = o :: t := by
  have hn : ¬ kl x.2.1 o.2.1 := by rw [hk]; exact kl_irrefl _
  rw [goOne, if_pos ⟨rfl, hn⟩, if_neg (not_not_intro hk), decide_eq_true hn, Bool.or_true, goOne_true fun y hy e => kl_ne (after_ne h hn y hy) e.symm]; rfl
theorem goOne_gt (h : opsUp (x :: t)) (hk : ¬ kl x.2.1 o.2.1) (hne : ¬ x.2.1 = o.2.1) : goOne false (x :: t) o = o :: x :: t := by
  rw [goOne, if_pos ⟨rfl, hk⟩, if_pos hne, decide_eq_true hk, Bool.or_true, goOne_true fun y hy e => kl_ne (after_ne h hk y hy) e.symm]; rfl
theorem ups_tail (h : opsUp (x :: t)) : opsUp t := ⟨fun y hy => h.1 y (.tail _ hy), (List.pairwise_cons.1 h.2).2⟩
theorem ups_cons (hc : opCheck x = 0) (h : opsUp t) (hl : ∀ y ∈ t, kl x.2.1 y.2.1) : opsUp (x :: t) := ⟨fun y hy => by
  rcases List.mem_cons.1 hy with rfl | hy
  · exact hc
  · exact h.1 y hy, List.pairwise_cons.2 ⟨hl, h.2⟩⟩
theorem tOne_up : ∀ {t : List DOp}, opsUp t → opCheck o = 0 → opsUp (tOne t o) ∧ (tOne t o).length ≤ t.length + 1 ∧ ∀ y ∈ tOne t o, y = o ∨ y ∈ t
  | [], h, hc => ⟨ups_cons hc ups_nil (fun y hy => by cases hy), Nat.le_refl _, fun y hy => .inl (by simpa [tOne, goOne] using hy)⟩
  | x :: t, h, hc => by
    have hx := h.1 x (.head _)
    by_cases hk : kl x.2.1 o.2.1
    · obtain ⟨i1, i2, i3⟩ := tOne_up (ups_tail h) hc
      have e : tOne (x :: t) o = x :: tOne t o := goOne_lt hk
      rw [e]
      refine ⟨ups_cons hx i1 fun y hy => ?_, by simp only [List.length_cons]; omega, fun y hy => ?_⟩
      · rcases i3 y hy with rfl | hy
        · exact hk
        · exact (List.pairwise_cons.1 h.2).1 y hy
      · rcases List.mem_cons.1 hy with rfl | hy
        · exact .inr (.head _)
        · exact (i3 y hy).imp id (.tail _)
    · by_cases hq : x.2.1 = o.2.1
      · have e : tOne (x :: t) o = o :: t := goOne_eq h hq
        rw [e]
        exact ⟨ups_cons hc (ups_tail h) (after_ne h hk), by simp, fun y hy => (List.mem_cons.1 hy).imp id (.tail _)⟩
      · have e : tOne (x :: t) o = o :: x :: t := goOne_gt h hk hq
        rw [e]
        refine ⟨ups_cons hc h fun y hy => ?_, by simp, fun y hy => (List.mem_cons.1 hy).imp id id⟩
        rcases List.mem_cons.1 hy with rfl | hy
        · exact kl_of hk (fun q => hq q.symm)
        · exact after_ne h hk y hy
/-- the walk's rounds -/
theorem one_step {out : List DOp} {put : Bool} (h : tOne t o = out ++ goOne put (t.drop k) o) (hx : t[k]? = some x) : tOne t o = out ++ ((if put = false ∧ ¬ kl x.2.1 o.2.1 then [o] else []) ++ ((if ¬ x.2.1 = o.2.1 then [x] else []) ++ goOne (put || decide (¬ kl x.2.1 o.2.1)) (t.drop (k + 1)) o)) := by
  rw [h, drop_cons hx, goOne]
def applyOne (t : List DOp) (o : DOp) : List DOp := if opCheck o = 0 then tOne t o else t
def sortedOf (l : List DOp) : List DOp := l.foldl applyOne []
theorem sorted_next (hx : l[k]? = some x) : sortedOf (l.take (k + 1)) = applyOne (sortedOf (l.take k)) x := by
  unfold sortedOf; rw [take_one hx, List.foldl_append]; rfl
theorem sorted_ok : ∀ {l t : List DOp}, opsUp t → opsUp (l.foldl applyOne t) ∧ (l.foldl applyOne t).length ≤ t.length + l.length
  | [], t, h => ⟨h, Nat.le_refl _⟩
  | o :: l, t, h => by
    have h1 : opsUp (applyOne t o) ∧ (applyOne t o).length ≤ t.length + 1 := by
      unfold applyOne; split
      · rename_i hc; exact ⟨(tOne_up h hc).1, (tOne_up h hc).2.1⟩
      · exact ⟨h, by omega⟩
    obtain ⟨a, b⟩ := sorted_ok (l := l) h1.1
    exact ⟨a, by rw [List.foldl_cons, List.length_cons]; omega⟩
theorem sorted_up (l : List DOp) : opsUp (sortedOf l) ∧ (sortedOf l).length ≤ l.length := by
  have := sorted_ok (l := l) ups_nil
  exact ⟨this.1, by have := this.2; simp only [List.length_nil, Nat.zero_add] at this; exact this⟩
end
abbrev Tref07Table : Ty := .pair .bool (.sl TOp)
abbrev Dref07Table := Bool × (List DOp)
instance decref07Table : DecidableEq Dref07Table := (@instDecidableEqProd _ _ inferInstance inferInstance)
theorem openO_ref07Table {m : Mem} {cs : List Value} {x0 : Bool} {x1 : List DOp} (h : Ow Tref07Table m cs (x0, x1)) : ∃ (A1 : Option Addr), ∃ (c1 : Nat), ∃ (n1 : Mem), cs = [(.bool x0 : Value), .slice A1 x1.length c1] ∧ Seps m [n1] ∧ Ow (.sl TOp) n1 [.slice A1 x1.length c1] x1 := by
  obtain ⟨p1, q1, ma1, mb1, rfl, dj1, la1, lb1, u1, w1⟩ := Ow.pair h
  obtain rfl := (show _ = _ from u1)
  have z3 := w1
  obtain ⟨A3, c3, rfl, _⟩ := Ow.slice1 w1
  exact ⟨A3, c3, _, rfl, (Seps.app dj1 la1 lb1 (Seps.nil _) (Seps.one (mle_refl _))), z3⟩
theorem mkO_ref07Table {m : Mem} {n1 : Mem} (x0 : Bool) (x1 : List DOp) (hS : Seps m [n1]) {v1 : Value} (h1 : Ow (.sl TOp) n1 [v1] x1) : Ow Tref07Table m [.bool x0, v1] (x0, x1) := by
  obtain ⟨e1, la1, lb1, Sa1, Sb1⟩ := Seps.cut (l := []) (r := [n1]) hS
  exact (Ow.mkPair (c1 := [_]) e1 la1 lb1 (show Ow .bool _ [_] _ from rfl) (h1.up (Sb1.1 _ (.head _))))
theorem openP_ref07Table {m : Mem} {cs : List Value} {g : Nat} {x0 : Bool} {x1 : List DOp} (h : Ow (.ptr Tref07Table) m cs (g, (x0, x1))) : ∃ (E : TypeId), ∃ (A1 : Option Addr), ∃ (c1 : Nat), ∃ (n1 : Mem), cs = [.pointer (some ⟨g, 0, none⟩)] ∧ Seps m [mone g (.cells [(.bool x0 : Value), .slice A1 x1.length c1].toArray E (0, 0)), n1] ∧ Ow (.sl TOp) n1 [.slice A1 x1.length c1] x1 := by
  obtain ⟨rfl, rc, E, m1, hd, l0, l1, h1⟩ := Ow.opnP h
  obtain ⟨A1, c1, n1, rfl, hS, f1⟩ := openO_ref07Table h1
  exact ⟨E, A1, c1, n1, rfl, Seps.app hd l0 l1 (Seps.one (mle_refl _)) hS, f1⟩
theorem mkP_ref07Table {m : Mem} {g : Nat} {E : TypeId} {n1 : Mem}{v1 : Value} (x0 : Bool) (x1 : List DOp) (hS : Seps m [mone g (.cells [.bool x0, v1].toArray E (0, 0)), n1]) (h1 : Ow (.sl TOp) n1 [v1] x1) : Ow (.ptr Tref07Table) m [.pointer (some ⟨g, 0, none⟩)] (g, (x0, x1)) :=
  Ow.clsP hS fun hS => mkO_ref07Table x0 x1 hS h1
def tApply (t : Dref07Table) (l : List DOp) : Dref07Table × Int := if t.1 = false then (t, 1) else if ∀ o ∈ l, opCheck o = 0 then ((true, l.foldl tOne t.2), 0) else (t, 2)
section
variable {t : Dref07Table} {l tl : List DOp} {o x : DOp} {k : Nat}
theorem goOne_len : ∀ (put : Bool) (t : List DOp), (goOne put t o).length ≤ t.length + 1
  | put, [] => by unfold goOne; split <;> simp
  | true, x :: t => by
    have := goOne_len true t
    have h2 : (goOne true t o).length ≤ t.length := by
      clear this
      induction t with
      | nil => simp [goOne]
      | cons y t ih => rw [goOne, if_neg (fun q => by cases q.1), Bool.true_or]; split <;> (simp only [List.nil_append, List.length_append, List.length_cons, List.length_nil]; omega)
    rw [goOne, if_neg (fun q => by cases q.1), Bool.true_or]; split <;> (simp only [List.nil_append, List.length_append, List.length_cons, List.length_nil]; omega)
  | false, x :: t => by
    rw [goOne]
    by_cases hk : kl x.2.1 o.2.1
    · have := goOne_len false t
      rw [if_neg (fun q => q.2 hk), decide_eq_false (not_not_intro hk), Bool.false_or]; split <;> (simp only [List.nil_append, List.length_append, List.length_cons, List.length_nil]; omega)
    · have h2 : (goOne true t o).length ≤ t.length := by
        induction t with
        | nil => simp [goOne]
        | cons y t ih => rw [goOne, if_neg (fun q => by cases q.1), Bool.true_or]; split <;> (simp only [List.nil_append, List.length_append, List.length_cons, List.length_nil]; omega)
      rw [if_pos ⟨rfl, hk⟩, decide_eq_true hk, Bool.or_true]; split <;> (simp only [List.nil_append, List.length_append, List.length_cons, List.length_nil]; omega)
theorem tOne_len (t : List DOp) (o : DOp) : (tOne t o).length ≤ t.length + 1 := goOne_len false t
theorem tfold_len : ∀ (l t : List DOp), (l.foldl tOne t).length ≤ t.length + l.length
  | [], t => Nat.le_refl _
  | o :: l, t => by
    have h1 := tOne_len t o
    have h2 := tfold_len l (tOne t o)
    rw [List.foldl_cons, List.length_cons]; omega
theorem tApply_bad (h : t.1 = true) (hx : l[k]? = some x) (hc : ¬ opCheck x = 0) : tApply t l = (t, 2) := by
  unfold tApply; rw [if_neg (by rw [h]; decide), if_neg fun q => hc (q x (List.mem_of_getElem? hx))]
theorem tApply_good (h : t.1 = true) (hc : ∀ o ∈ l, opCheck o = 0) : tApply t l = ((true, l.foldl tOne t.2), 0) := by
  unfold tApply; rw [if_neg (by rw [h]; decide), if_pos hc]
theorem tApply_len (t : Dref07Table) (l : List DOp) : (tApply t l).1.2.length ≤ t.2.length + l.length ∧ ((tApply t l).2 = 0 ∨ (tApply t l).2 = 1 ∨ (tApply t l).2 = 2) ∧ (tApply t l).1.1 = t.1 := by
  unfold tApply; split
  · exact ⟨by dsimp only; omega, .inr (.inl rfl), rfl⟩
  · rename_i h; split
    · exact ⟨tfold_len _ _, .inl rfl, by dsimp only; cases hh : t.1 <;> simp_all⟩
    · exact ⟨by dsimp only; omega, .inr (.inr rfl), rfl⟩
theorem take_fold (hx : l[k]? = some x) : (l.take (k + 1)).foldl tOne tl = tOne ((l.take k).foldl tOne tl) x := by rw [take_one hx, List.foldl_append]; rfl
theorem all_one {k : Nat} (ha : ∀ o ∈ l.take k, opCheck o = 0) (hx : l[k]? = some x) (hc : ¬ ¬ opCheck x = 0) : ∀ o ∈ l.take (k + 1), opCheck o = 0 := fun o ho => by
  rw [take_one hx] at ho
  rcases List.mem_append.1 ho with ho | ho
  · exact ha o ho
  · rw [List.mem_singleton.1 ho]; exact Decidable.not_not.1 hc
theorem sorted_step (h : t.1 = true) (hs : t.2 = sortedOf (l.take k)) (hk : k < l.length) : (tApply t ((l.take (k + 1)).drop k)).1.2 = sortedOf (l.take (k + 1)) ∧ (tApply t ((l.take (k + 1)).drop k)).1.1 = true := by
  obtain ⟨x, hx⟩ : ∃ x, l[k]? = some x := ⟨_, List.getElem?_eq_getElem hk⟩
  have e : (l.take (k + 1)).drop k = [x] := by
    rw [take_one hx, List.drop_append, List.drop_of_length_le (by rw [List.length_take]; omega), List.length_take, Nat.min_eq_left (by omega), Nat.sub_self]; rfl
  rw [e, sorted_next hx, ← hs]
  unfold applyOne
  by_cases hc : opCheck x = 0
  · rw [tApply_good h (fun o ho => by rw [List.mem_singleton.1 ho]; exact hc), if_pos hc]; exact ⟨rfl, rfl⟩
  · rw [tApply_bad (k := 0) (x := x) h rfl hc, if_neg hc]; exact ⟨rfl, h⟩
section
variable {out : List DOp} {put : Bool} {u : List DOp} {y z : DOp}
theorem one_a (h : tOne u o = out ++ goOne put (u.drop k) o) (hp : put = false) (hk : ¬ kl x.2.1 o.2.1) (hx : u[k]? = some x) (hn : ¬ y.2.1 = o.2.1) (hy : u[k]? = some y) (hz : u[k]? = some z) : tOne u o = ((out ++ [o]) ++ [z]) ++ goOne true (u.drop (k + 1)) o   := by
  obtain rfl : y = z := Option.some.inj (hy.symm.trans hz)
  obtain rfl : x = y := Option.some.inj (hx.symm.trans hy)
  rw [one_step h hx, if_pos ⟨hp, hk⟩, if_pos hn, decide_eq_true hk, Bool.or_true]; simp
theorem one_b (h : tOne u o = out ++ goOne put (u.drop k) o) (hp : put = false) (hk : ¬ kl x.2.1 o.2.1) (hx : u[k]? = some x) (hn : ¬ ¬ y.2.1 = o.2.1) (hy : u[k]? = some y) : tOne u o = (out ++ [o]) ++ goOne true (u.drop (k + 1)) o := by
  obtain rfl : x = y := Option.some.inj (hx.symm.trans hy)
  rw [one_step h hx, if_pos ⟨hp, hk⟩, if_neg hn, decide_eq_true hk, Bool.or_true]; simp
theorem one_c (h : tOne u o = out ++ goOne put (u.drop k) o) (hp : put = false) (hk : ¬ ¬ kl x.2.1 o.2.1) (hx : u[k]? = some x) (hn : ¬ y.2.1 = o.2.1) (hy : u[k]? = some y) (hz : u[k]? = some z) : tOne u o = (out ++ [z]) ++ goOne put (u.drop (k + 1)) o   := by
  obtain rfl : y = z := Option.some.inj (hy.symm.trans hz)
  obtain rfl : x = y := Option.some.inj (hx.symm.trans hy)
  rw [one_step h hx, if_neg fun q => hk q.2, if_pos hn, decide_eq_false hk, Bool.or_false]; simp
theorem one_f (hk : ¬ ¬ kl x.2.1 o.2.1) (hx : u[k]? = some x) (hn : ¬ ¬ y.2.1 = o.2.1) (hy : u[k]? = some y) : False := by
  obtain rfl : x = y := Option.some.inj (hx.symm.trans hy)
  exact kl_ne (Decidable.not_not.1 hk) (Decidable.not_not.1 hn)
theorem one_d (h : tOne u o = out ++ goOne put (u.drop k) o) (hp : put = true) (hn : ¬ y.2.1 = o.2.1) (hy : u[k]? = some y) (hz : u[k]? = some z) : tOne u o = (out ++ [z]) ++ goOne put (u.drop (k + 1)) o   := by
  obtain rfl : y = z := Option.some.inj (hy.symm.trans hz)
  subst hp
  rw [one_step h hy, if_neg (fun q => by cases q.1), if_pos hn, Bool.true_or]; simp
theorem one_e (h : tOne u o = out ++ goOne put (u.drop k) o) (hp : put = true) (hn : ¬ ¬ y.2.1 = o.2.1) (hy : u[k]? = some y) : tOne u o = out ++ goOne put (u.drop (k + 1)) o := by
  subst hp
  rw [one_step h hy, if_neg (fun q => by cases q.1), if_neg hn, Bool.true_or]; simp
end
end
theorem fnOk66 : fnOk Try.prog 66 = true := by kernel_rfl
theorem fnOk67 : fnOk Try.prog 67 = true := by kernel_rfl
theorem fnOk68 : fnOk Try.prog 68 = true := by kernel_rfl
theorem fnOk86 : fnOk Try.prog 86 = true := by kernel_rfl
theorem fnOk87 : fnOk Try.prog 87 = true := by kernel_rfl
theorem tst127 : tst Try.prog 127 = some [(0, 1), (1, 1)] := by kernel_rfl
theorem tz127 : tz Try.prog 127 = some [.bool false, .slice none 0 0] := by kernel_rfl
theorem fnOk61 : fnOk Try.prog 61 = true := by kernel_rfl
theorem t7New_ok (W : World) : CallR Try.prog 66 [] W (mnil) (fun v m' => ∃ (s0 : Nat), v = .pointer (some ⟨s0, 0, none⟩) ∧ Ow (.ptr Tref07Table) m' [.pointer (some ⟨s0, 0, none⟩)] (s0, (true, []))) := by
  refine CallR.ofA (n := 3) Try.func66 rfl rfl rfl ?_
  refine VC.rs ?_
  refine VO.as ?_
  refine VO.k1 0 ?_
  refine VC.rs ?_
  refine VO.y rfl (.bst (cs := [Value.bool true, Value.slice none (0) (0)]) rfl tst127 tz127 rfl) ?_
  refine VO.box (cs := [Value.bool true, Value.slice none (0) (0)]) 102 rfl rfl rfl (fun g1 => ?_)
  refine VO.as ?_
  refine VO.k1 0 ?_
  refine VC.ret ?_
  refine ⟨_, _, res_run (rs := [.tmp 0]) rfl (.tmp rfl .nil), fun W_ hI => out_of (l := [mone g1 (.cells [Value.bool true, Value.slice none (0) (0)].toArray 127 (0, 0))]) hI [102] rfl rfl (mle_refl _) (fun hS_ => ?_)⟩
  dsimp only [packV]
  have he0 : ((true, []) : Dref07Table) = (true, []) := by first | rfl | (simp [*]; done)
  refine ⟨g1, ?_, ?_⟩
  rotate_left
  · rw [he0]; exact (mkP_ref07Table true [] (Seps.nilAt 1 hS_) (Ow.nil _ _))
  all_goals (first | rfl | (simp [*]; done))
theorem t7None_ok (W : World) {m0 : Mem} (hm : mle (m0) (wm W)) {g0 : Nat} {d0 : Dref07Table} (h0 : Ow (.ptr Tref07Table) m0 [.pointer (some ⟨g0, 0, none⟩)] (g0, d0)) : CallR Try.prog 86 [.pointer (some ⟨g0, 0, none⟩)] W (m0) (fun v m' => v = .bool (decide (d0.1 = false)) ∧ Ow (.ptr Tref07Table) m' [.pointer (some ⟨g0, 0, none⟩)] (g0, d0)) := by
  refine CallR.ofB (n := 12) hm Try.func86 rfl rfl rfl ?_
  refine VC.rs ?_
  refine VO.as ?_
  refine VO.k2 0 2 ?_
  refine VC.rs ?_
  refine VO.mv ?_
  refine VO.y rfl (.pnil rfl rfl Try.underlying101 rfl) ?_
  refine VO.mv ?_
  refine VO.gy rfl ⟨_, rfl, rfl⟩ (.mv rfl) ?_
  refine VO.gy rfl ⟨_, rfl, rfl⟩ (.nilp rfl) ?_
  refine VO.gy rfl ⟨_, rfl, rfl⟩ (.fa rfl tst127 rfl) ?_
  obtain ⟨q1_E, q1_A1, q1_c1, q1_n1, _, q1_S, q1_1⟩ := openP_ref07Table (x0 := d0.1) (x1 := d0.2) h0
  have q1_r1 := q1_1.rm
  refine VO.inv _ (fun _ h => h.parts (i := 1) rfl q1_S [103, 102]) ?_
  refine VO.gy rfl ⟨_, rfl, rfl⟩ (.ld1 103 rfl tk4 rfl (cellsAt_one rfl rfl)) ?_
  refine VO.gy rfl ⟨_, rfl, rfl⟩ (.not rfl) ?_
  refine VO.y rfl (.pF rfl rfl) ?_
  refine VO.as ?_
  refine VO.clsP 104 [103, 102] rfl (fun hg4 => (show Ow (.ptr Tref07Table) _ _ (_, d0) from (mkP_ref07Table d0.1 d0.2 hg4 (OwnL.ow (Ow.ownl q1_1 rfl mnil) rfl)))) (fun mc4 ho4 => ?_)
  refine VO.k2 0 2 ?_
  refine VC.ret ?_
  refine ⟨_, _, res_run (rs := [.tmp 2]) rfl (.tmp rfl .nil), fun W_ hI => out_of (l := [mc4]) hI [104] rfl rfl (mle_refl _) (fun hS_ => ?_)⟩
  dsimp only [packV]
  have hm0_ : (d0 : Dref07Table) = d0 := by first | rfl | (simp [*]; done)
  refine ⟨?_, ?_⟩
  rotate_left
  · rw [hm0_]; exact (Ow.up ho4 (hS_.1 _ (.head _)))
  all_goals (first | rfl | (first | exact congrArg Value.bool (by simp [*]) | simp [*]))
theorem t7One_ok (W : World) {m0 : Mem} (hm : mle (m0) (wm W)) {g0 : Nat} {d0 : Dref07Table} (h0 : Ow (.ptr Tref07Table) m0 [.pointer (some ⟨g0, 0, none⟩)] (g0, d0)) {v1 : List Value} {d1 : DOp} (h1 : Rd TOp (mout (wm W) (m0)) v1 d1) (e0 : d0.2.length ≤ 1700000000000) : CallR Try.prog 87 [.pointer (some ⟨g0, 0, none⟩), .agg v1.toArray] W (m0) (fun v m' => v = .tuple #[] ∧ Ow (.ptr Tref07Table) m' [.pointer (some ⟨g0, 0, none⟩)] (g0, (d0.1, tOne d0.2 d1))) := by
  obtain ⟨rfl, p1_1, p1_2⟩ := open_Op (x0 := d1.1) (x1 := d1.2.1) (x2 := d1.2.2) h1
  simp only [maxLen] at p1_1
  simp only [maxLen] at p1_2
  refine CallR.ofB (n := 66) hm Try.func87 rfl rfl rfl ?_
  refine VC.rs ?_
  refine VO.box (cs := [Value.bool d1.1, str (d1.2.1), str (d1.2.2)]) 102 rfl rfl rfl (fun g1 => ?_)
  refine VO.k3 0 1 3 ?_
  refine VC.rs ?_
  refine VO.as ?_
  refine VO.k4 0 1 3 4 ?_
  refine VC.rs ?_
  refine VO.as ?_
  refine VO.kp [102, 0, 1] [(102, mone g1 (.cells [Value.bool d1.1, str (d1.2.1), str (d1.2.2)].toArray 35 (0, 0))), (0, mout (wm W) (m0)), (1, m0)] ?_
  refine VO.k5 0 1 3 4 5 ?_
  refine VC.seq ?_
  refine VC.rs ?_
  refine VO.as ?_
  refine VO.k6 0 1 3 4 5 6 ?_
  refine VC.block ?_
  refine VC.inv ((103, mnil) :: _) (fun _ h => h.nilc 103) ?_
  refine VC.loop (G := Nat × (List DOp) × (Option Addr) × Nat × Mem × Bool × Mem) (fun g => [(4, Value.slice (g.2.2.1) ((g.2.1).length) ((g.2.2.2.1))), (5, Value.bool (g.2.2.2.2.2.1)), (6, Value.int .i64 ((((g.1) : Nat) : Int))), (0, Value.pointer (some ⟨g0, 0, none⟩)), (1, Value.agg [Value.bool d1.1, str (d1.2.1), str (d1.2.2)].toArray), (3, Value.pointer (some ⟨g1, 0, none⟩))]) (fun g => [(103, (g.2.2.2.2.1)), (102, mone g1 (.cells [Value.bool d1.1, str (d1.2.1), str (d1.2.2)].toArray 35 (0, 0))), (0, mout (wm W) (m0)), (1, (g.2.2.2.2.2.2))]) (fun g => ((g.1) ≤ d0.2.length) ∧ (tOne d0.2 d1 = (g.2.1) ++ goOne (g.2.2.2.2.2.1) (d0.2.drop (g.1)) d1) ∧ ((g.2.1).length ≤ 2 * (g.1)) ∧ (OwnL TOp (g.2.2.2.2.1) mnil (.slice (g.2.2.1) (g.2.1).length (g.2.2.2.1)) (g.2.1)) ∧ (Ow (.ptr Tref07Table) (g.2.2.2.2.2.2) [.pointer (some ⟨g0, 0, none⟩)] (g0, d0))) (fun g => d0.2.length - (g.1)) (0, [], none, 0, mnil, false, m0) (⟨by omega, by rfl, by simp, (OwnL.nil TOp mnil mnil), h0⟩) ⟨⟨rfl, rfl, rfl, rfl, rfl, rfl, trivial⟩, fun _ h => h.sub [103, 102, 0, 1]⟩ ?_
  rintro ⟨k, out, out_A, out_c, out_m, put, t_m⟩ ⟨hk, hg, hlo, h_out, h_t⟩
  replace hk : k ≤ d0.2.length := hk
  replace hg : tOne d0.2 d1 = out ++ goOne put (d0.2.drop k) d1 := hg
  replace hlo : out.length ≤ 2 * k := hlo
  replace h_out : OwnL TOp out_m mnil (.slice out_A out.length out_c) out := h_out
  replace h_t : Ow (.ptr Tref07Table) t_m [.pointer (some ⟨g0, 0, none⟩)] (g0, d0) := h_t
  show VC _ _ _ _ _ [(4, Value.slice out_A (out.length) (out_c)), (5, Value.bool put), (6, Value.int .i64 (((k : Nat) : Int))), (0, Value.pointer (some ⟨g0, 0, none⟩)), (1, Value.agg [Value.bool d1.1, str (d1.2.1), str (d1.2.2)].toArray), (3, Value.pointer (some ⟨g1, 0, none⟩))] [(103, out_m), (102, mone g1 (.cells [Value.bool d1.1, str (d1.2.1), str (d1.2.2)].toArray 35 (0, 0))), (0, mout (wm W) (m0)), (1, t_m)]
  have l_out : out.length ≤ out_c := by obtain ⟨_, _, he, hl, _⟩ := h_out.slice; simp only [Value.slice.injEq] at he; omega
  have k_out : out_c ≤ 9223372036854775807 := by obtain ⟨_, _, he, _, hl⟩ := h_out.slice; simp only [Value.slice.injEq, maxLen] at he hl; omega
  refine VC.seq ?_
  refine VC.rs ?_
  refine VO.mv ?_
  refine VO.mv ?_
  refine VO.y rfl (.nilp rfl) ?_
  refine VO.y rfl (.fa rfl tst127 rfl) ?_
  obtain ⟨q4_E, q4_A1, q4_c1, q4_n1, _, q4_S, q4_1⟩ := openP_ref07Table (x0 := d0.1) (x1 := d0.2) h_t
  have q4_r1 := q4_1.rm
  refine VO.inv _ (fun _ h => h.parts (i := 1) rfl q4_S [106, 105]) ?_
  refine VO.y rfl (.ld1 106 rfl tk30 rfl (cellsAt_one rfl rfl)) ?_
  refine VO.y rfl (.lenS rfl tsl30) ?_
  refine VO.y rfl (.lss rfl rfl) ?_
  refine VO.clsP 107 [106, 105] rfl (fun hg7 => (show Ow (.ptr Tref07Table) _ _ (_, d0) from (mkP_ref07Table d0.1 d0.2 hg7 (OwnL.ow (Ow.ownl q4_1 rfl mnil) rfl)))) (fun mc7 ho7 => ?_)
  refine VO.k7 0 1 3 4 5 6 13 ?_
  refine VC.cond rfl (fun hc8 => ?_) (fun hc8 => ?_)
  · -- T
    refine VC.skip ?_
    refine outN ?_
    refine VC.seq ?_
    refine VC.block ?_
    refine VC.seq ?_
    refine VC.seq ?_
    obtain ⟨q9_E, q9_A1, q9_c1, q9_n1, _, q9_S, q9_1⟩ := openP_ref07Table (x0 := d0.1) (x1 := d0.2) ho7
    have q9_r1 := q9_1.rm
    refine VC.inv _ (fun _ h => h.parts (i := 107) rfl q9_S [111, 110]) ?_
    refine VC.regD _ 13 [(0, true), (1, true), (2, true), (3, true), (4, true), (5, true), (6, true), (7, true), (8, true), (9, true), (10, true), (11, true), (12, true)] follows (by kernel_rfl) (fun _ h => h.sub [111, 110, 103, 102, 0]) ?_
    refine VD.y rfl rfl (.inl rfl) (.mv rfl) ?_
    refine VD.y rfl rfl (.inl rfl) (.not rfl) ?_
    refine VD.y rfl rfl (.inl rfl) (.mv rfl) ?_
    refine VD.decBN (s := 18) rfl (fun hc12 => ?_) (fun hc12 => ?_)
    · -- TT
      refine VD.y rfl rfl (.inr ⟨_, _, rfl, _, rfl, rfl⟩) (.mv rfl) ?_
      refine VD.y rfl rfl (.inr ⟨_, _, rfl, _, rfl, rfl⟩) (.nilp rfl) ?_
      refine VD.y rfl rfl (.inr ⟨_, _, rfl, _, rfl, rfl⟩) (.fa rfl tst127 rfl) ?_
      refine VD.y rfl rfl (.inr ⟨_, _, rfl, _, rfl, rfl⟩) (.ld1 111 rfl tk30 rfl (cellsAt_one rfl rfl)) ?_
      refine VD.y rfl rfl (.inr ⟨_, _, rfl, _, rfl, rfl⟩) (.mv rfl) ?_
      obtain ⟨x13, hx13⟩ : ∃ z_, (d0.2)[k]? = some z_ := ⟨_, List.getElem?_eq_getElem bd⟩
      obtain ⟨gg13, oo13, ec13, ea13, hce13, hre13⟩ := (Ow.ownl q9_1 rfl mnil).elem hx13
      cases ea13
      obtain ⟨rfl, q13_1, q13_2⟩ := open_Op (x0 := x13.1) (x1 := x13.2.1) (x2 := x13.2.2) hre13
      simp only [maxLen] at q13_1
      simp only [maxLen] at q13_2
      refine VD.y rfl rfl (.inr ⟨_, _, rfl, _, rfl, rfl⟩) (.ixI k rfl rfl tsl30 rfl bd) ?_
      refine VD.y rfl rfl (.inr ⟨_, _, rfl, _, rfl, rfl⟩) (.fa rfl tst35 rfl) ?_
      refine VD.y rfl rfl (.inr ⟨_, _, rfl, _, rfl, rfl⟩) (.ld1 110 rfl tk9 rfl (hce13.at1 (j := 1) rfl)) ?_
      refine VD.y rfl rfl (.inr ⟨_, _, rfl, _, rfl, rfl⟩) (.fa rfl tst35 rfl) ?_
      refine VD.y rfl rfl (.inr ⟨_, _, rfl, _, rfl, rfl⟩) (.ld1 102 rfl tk9 rfl (cellsAt_one rfl rfl)) ?_
      refine VD.nil rfl ?_ rfl
      refine VO.gy rfl ⟨_, rfl, rfl⟩ (.sgeq rfl rfl) ?_
      refine VO.y rfl (.pT rfl rfl) ?_
      refine VO.clsP 114 [111, 110] rfl (fun hg14 => (show Ow (.ptr Tref07Table) _ _ (_, d0) from (mkP_ref07Table d0.1 d0.2 hg14 (OwnL.ow (Ow.ownl q9_1 rfl mnil) rfl)))) (fun mc14 ho14 => ?_)
      refine VO.kp [114, 103, 102, 0] [(114, mc14), (103, out_m), (102, mone g1 (.cells [Value.bool d1.1, str (d1.2.1), str (d1.2.2)].toArray 35 (0, 0))), (0, mout (wm W) (m0))] ?_
      refine VO.k8 0 1 3 4 5 6 13 30 ?_
      refine outN ?_
      refine VC.cond rfl (fun hc15 => ?_) (fun hc15 => ?_)
      · -- TTT
        refine VC.rs ?_
        refine VO.mv ?_
        refine VO.y rfl (.ldA 102 rfl tk35 rfl (cellsAt_one rfl rfl)) ?_
        refine VO.bsl (cs := [Value.bool d1.1, str (d1.2.1), str (d1.2.2)]) 117 rfl rfl tsl30 tz35 rfl rfl (fun g16 => ?_)
        obtain ⟨mo18, cs18, hM18, hA18, hC18⟩ := h_out
        refine VO.app 103 rfl rfl rfl tsl30 tz35 rfl rfl hM18 hA18 (.row 117 _ _ _ 1 1 _ _ Try.underlying30 rfl (cellsAt_one rfl rfl)) (by simp [Value.oneCell']) bdm bd (by decide) (fun v18 m18 hN18 => ?_)
        have ho18 : OwnL TOp m18 mnil v18 (out ++ [d1]) := OwnL.one hC18 hN18 (Rd.flat rfl h1 _)
        obtain ⟨A18, c18, rfl, l18, k18⟩ := ho18.slice
        simp only [maxLen] at k18
        refine VO.as ?_
        refine VO.k8 0 1 3 4 5 6 13 30 ?_
        refine VC.reg ?_
        refine VO.as ?_
        refine VO.k8 0 1 3 4 5 6 13 30 ?_
        refine outN ?_
        refine VC.seq ?_
        obtain ⟨q19_E, q19_A1, q19_c1, q19_n1, _, q19_S, q19_1⟩ := openP_ref07Table (x0 := d0.1) (x1 := d0.2) ho14
        have q19_r1 := q19_1.rm
        refine VC.inv _ (fun _ h => h.parts (i := 114) rfl q19_S [121, 120]) ?_
        refine VC.regD _ 10 [(0, true), (1, true), (2, true), (3, true), (4, true), (5, true), (6, true), (7, true), (8, true), (9, true)] follows (by kernel_rfl) (fun _ h => h.sub [121, 120, 117, 103, 102, 0]) ?_
        refine VD.y rfl rfl (.inl rfl) (.mv rfl) ?_
        refine VD.y rfl rfl (.inl rfl) (.nilp rfl) ?_
        refine VD.y rfl rfl (.inl rfl) (.fa rfl tst127 rfl) ?_
        refine VD.y rfl rfl (.inl rfl) (.ld1 121 rfl tk30 rfl (cellsAt_one rfl rfl)) ?_
        refine VD.y rfl rfl (.inl rfl) (.mv rfl) ?_
        obtain ⟨x22, hx22⟩ : ∃ z_, (d0.2)[k]? = some z_ := ⟨_, List.getElem?_eq_getElem bd⟩
        obtain ⟨gg22, oo22, ec22, ea22, hce22, hre22⟩ := (Ow.ownl q19_1 rfl mnil).elem hx22
        cases ea22
        obtain ⟨rfl, q22_1, q22_2⟩ := open_Op (x0 := x22.1) (x1 := x22.2.1) (x2 := x22.2.2) hre22
        simp only [maxLen] at q22_1
        simp only [maxLen] at q22_2
        refine VD.y rfl rfl (.inl rfl) (.ixI k rfl rfl tsl30 rfl bd) ?_
        refine VD.y rfl rfl (.inl rfl) (.fa rfl tst35 rfl) ?_
        refine VD.y rfl rfl (.inl rfl) (.ld1 120 rfl tk9 rfl (hce22.at1 (j := 1) rfl)) ?_
        refine VD.y rfl rfl (.inl rfl) (.fa rfl tst35 rfl) ?_
        refine VD.y rfl rfl (.inl rfl) (.ld1 102 rfl tk9 rfl (cellsAt_one rfl rfl)) ?_
        refine VD.nil rfl ?_ rfl
        refine VO.y rfl (.sneq rfl rfl) ?_
        refine VO.clsP 123 [121, 120] rfl (fun hg23 => (show Ow (.ptr Tref07Table) _ _ (_, d0) from (mkP_ref07Table d0.1 d0.2 hg23 (OwnL.ow (Ow.ownl q19_1 rfl mnil) rfl)))) (fun mc23 ho23 => ?_)
        refine VO.kp [123, 103, 102, 0] [(123, mc23), (103, m18), (102, mone g1 (.cells [Value.bool d1.1, str (d1.2.1), str (d1.2.2)].toArray 35 (0, 0))), (0, mout (wm W) (m0))] ?_
        refine VO.k9 0 1 3 4 5 6 13 30 45 ?_
        refine outN ?_
        refine VC.cond rfl (fun hc24 => ?_) (fun hc24 => ?_)
        · -- TTTT
          refine VC.reg ?_
          refine VO.mv ?_
          refine VO.mv ?_
          refine VO.y rfl (.nilp rfl) ?_
          refine VO.y rfl (.fa rfl tst127 rfl) ?_
          obtain ⟨q25_E, q25_A1, q25_c1, q25_n1, _, q25_S, q25_1⟩ := openP_ref07Table (x0 := d0.1) (x1 := d0.2) ho23
          have q25_r1 := q25_1.rm
          refine VO.inv _ (fun _ h => h.parts (i := 123) rfl q25_S [127, 126]) ?_
          refine VO.y rfl (.ld1 127 rfl tk30 rfl (cellsAt_one rfl rfl)) ?_
          refine VO.mv ?_
          obtain ⟨x28, hx28⟩ : ∃ z_, (d0.2)[k]? = some z_ := ⟨_, List.getElem?_eq_getElem bd⟩
          obtain ⟨gg28, oo28, ec28, ea28, hce28, hre28⟩ := (Ow.ownl q25_1 rfl mnil).elem hx28
          cases ea28
          obtain ⟨rfl, q28_1, q28_2⟩ := open_Op (x0 := x28.1) (x1 := x28.2.1) (x2 := x28.2.2) hre28
          simp only [maxLen] at q28_1
          simp only [maxLen] at q28_2
          refine VO.y rfl (.ixI k rfl rfl tsl30 rfl bd) ?_
          refine VO.y rfl (.ldA 126 rfl tk35 rfl hce28) ?_
          refine VO.bsl (cs := [Value.bool x28.1, str (x28.2.1), str (x28.2.2)]) 130 rfl rfl tsl30 tz35 rfl rfl (fun g29 => ?_)
          obtain ⟨mo31, cs31, hM31, hA31, hC31⟩ := ho18
          refine VO.app 103 rfl rfl rfl tsl30 tz35 rfl rfl hM31 hA31 (.row 130 _ _ _ 1 1 _ _ Try.underlying30 rfl (cellsAt_one rfl rfl)) (by simp [Value.oneCell']) bdm bd (by decide) (fun v31 m31 hN31 => ?_)
          have ho31 : OwnL TOp m31 mnil v31 ((out ++ [d1]) ++ [x28]) := OwnL.one hC31 hN31 (Rd.flat rfl hre28 _)
          obtain ⟨A31, c31, rfl, l31, k31⟩ := ho31.slice
          simp only [maxLen] at k31
          refine VO.as ?_
          refine VO.clsP 132 [127, 126] rfl (fun hg32 => (show Ow (.ptr Tref07Table) _ _ (_, d0) from (mkP_ref07Table d0.1 d0.2 hg32 (OwnL.ow (Ow.ownl q25_1 rfl mnil) rfl)))) (fun mc32 ho32 => ?_)
          refine VO.k9 0 1 3 4 5 6 13 30 45 ?_
          refine outBN ?_
          refine outN ?_
          refine VC.reg ?_
          refine VO.mv ?_
          refine VO.y rfl (.add (c := ((k + 1 : Nat) : Int)) rfl rfl (by omega) ⟨bd, bd⟩) ?_
          refine VO.as ?_
          refine VO.k9 0 1 3 4 5 6 13 30 45 ?_
          exact outN ⟨⟨k + 1, (out ++ [d1]) ++ [x28], A31, c31, m31, true, mc32⟩, ⟨by omega, by first | exact one_a hg (by assumption) (by assumption) (by assumption) (by assumption) (by assumption) (by assumption) | exact one_b hg (by assumption) (by assumption) (by assumption) (by assumption) (by assumption) | exact one_c hg (by assumption) (by assumption) (by assumption) (by assumption) (by assumption) (by assumption) | exact one_d hg (by assumption) (by assumption) (by assumption) (by assumption) | exact one_e hg (by assumption) (by assumption) (by assumption) | exact (one_f (by assumption) (by assumption) (by assumption) (by assumption)).elim, by (simp only [List.length_append, List.length_cons, List.length_nil]; omega), ho31, ho32⟩, bd, ⟨⟨rfl, rfl, rfl, rfl, rfl, rfl, trivial⟩, fun _ h => Inv.sub (Inv.num h 132 1 rfl) [103, 102, 0, 1]⟩⟩
        · -- TTTF
          refine VC.skip ?_
          refine outBN ?_
          refine outN ?_
          refine VC.reg ?_
          refine VO.mv ?_
          refine VO.y rfl (.add (c := ((k + 1 : Nat) : Int)) rfl rfl (by omega) ⟨bd, bd⟩) ?_
          refine VO.as ?_
          refine VO.k9 0 1 3 4 5 6 13 30 45 ?_
          exact outN ⟨⟨k + 1, out ++ [d1], A18, c18, m18, true, mc23⟩, ⟨by omega, by first | exact one_a hg (by assumption) (by assumption) (by assumption) (by assumption) (by assumption) (by assumption) | exact one_b hg (by assumption) (by assumption) (by assumption) (by assumption) (by assumption) | exact one_c hg (by assumption) (by assumption) (by assumption) (by assumption) (by assumption) (by assumption) | exact one_d hg (by assumption) (by assumption) (by assumption) (by assumption) | exact one_e hg (by assumption) (by assumption) (by assumption) | exact (one_f (by assumption) (by assumption) (by assumption) (by assumption)).elim, by (simp only [List.length_append, List.length_cons, List.length_nil]; omega), ho18, ho23⟩, bd, ⟨⟨rfl, rfl, rfl, rfl, rfl, rfl, trivial⟩, fun _ h => Inv.sub (Inv.num h 123 1 rfl) [103, 102, 0, 1]⟩⟩
      · -- TTF
        refine VC.skip ?_
        refine outN ?_
        refine VC.seq ?_
        obtain ⟨q33_E, q33_A1, q33_c1, q33_n1, _, q33_S, q33_1⟩ := openP_ref07Table (x0 := d0.1) (x1 := d0.2) ho14
        have q33_r1 := q33_1.rm
        refine VC.inv _ (fun _ h => h.parts (i := 114) rfl q33_S [135, 134]) ?_
        refine VC.regD _ 10 [(0, true), (1, true), (2, true), (3, true), (4, true), (5, true), (6, true), (7, true), (8, true), (9, true)] follows (by kernel_rfl) (fun _ h => h.sub [135, 134, 103, 102, 0]) ?_
        refine VD.y rfl rfl (.inl rfl) (.mv rfl) ?_
        refine VD.y rfl rfl (.inl rfl) (.nilp rfl) ?_
        refine VD.y rfl rfl (.inl rfl) (.fa rfl tst127 rfl) ?_
        refine VD.y rfl rfl (.inl rfl) (.ld1 135 rfl tk30 rfl (cellsAt_one rfl rfl)) ?_
        refine VD.y rfl rfl (.inl rfl) (.mv rfl) ?_
        obtain ⟨x36, hx36⟩ : ∃ z_, (d0.2)[k]? = some z_ := ⟨_, List.getElem?_eq_getElem bd⟩
        obtain ⟨gg36, oo36, ec36, ea36, hce36, hre36⟩ := (Ow.ownl q33_1 rfl mnil).elem hx36
        cases ea36
        obtain ⟨rfl, q36_1, q36_2⟩ := open_Op (x0 := x36.1) (x1 := x36.2.1) (x2 := x36.2.2) hre36
        simp only [maxLen] at q36_1
        simp only [maxLen] at q36_2
        refine VD.y rfl rfl (.inl rfl) (.ixI k rfl rfl tsl30 rfl bd) ?_
        refine VD.y rfl rfl (.inl rfl) (.fa rfl tst35 rfl) ?_
        refine VD.y rfl rfl (.inl rfl) (.ld1 134 rfl tk9 rfl (hce36.at1 (j := 1) rfl)) ?_
        refine VD.y rfl rfl (.inl rfl) (.fa rfl tst35 rfl) ?_
        refine VD.y rfl rfl (.inl rfl) (.ld1 102 rfl tk9 rfl (cellsAt_one rfl rfl)) ?_
        refine VD.nil rfl ?_ rfl
        refine VO.y rfl (.sneq rfl rfl) ?_
        refine VO.clsP 137 [135, 134] rfl (fun hg37 => (show Ow (.ptr Tref07Table) _ _ (_, d0) from (mkP_ref07Table d0.1 d0.2 hg37 (OwnL.ow (Ow.ownl q33_1 rfl mnil) rfl)))) (fun mc37 ho37 => ?_)
        refine VO.k9 0 1 3 4 5 6 13 30 45 ?_
        refine outN ?_
        refine VC.cond rfl (fun hc38 => ?_) (fun hc38 => ?_)
        · -- TTFT
          refine VC.reg ?_
          refine VO.mv ?_
          refine VO.mv ?_
          refine VO.y rfl (.nilp rfl) ?_
          refine VO.y rfl (.fa rfl tst127 rfl) ?_
          obtain ⟨q39_E, q39_A1, q39_c1, q39_n1, _, q39_S, q39_1⟩ := openP_ref07Table (x0 := d0.1) (x1 := d0.2) ho37
          have q39_r1 := q39_1.rm
          refine VO.inv _ (fun _ h => h.parts (i := 137) rfl q39_S [141, 140]) ?_
          refine VO.y rfl (.ld1 141 rfl tk30 rfl (cellsAt_one rfl rfl)) ?_
          refine VO.mv ?_
          obtain ⟨x42, hx42⟩ : ∃ z_, (d0.2)[k]? = some z_ := ⟨_, List.getElem?_eq_getElem bd⟩
          obtain ⟨gg42, oo42, ec42, ea42, hce42, hre42⟩ := (Ow.ownl q39_1 rfl mnil).elem hx42
          cases ea42
          obtain ⟨rfl, q42_1, q42_2⟩ := open_Op (x0 := x42.1) (x1 := x42.2.1) (x2 := x42.2.2) hre42
          simp only [maxLen] at q42_1
          simp only [maxLen] at q42_2
          refine VO.y rfl (.ixI k rfl rfl tsl30 rfl bd) ?_
          refine VO.y rfl (.ldA 140 rfl tk35 rfl hce42) ?_
          refine VO.bsl (cs := [Value.bool x42.1, str (x42.2.1), str (x42.2.2)]) 144 rfl rfl tsl30 tz35 rfl rfl (fun g43 => ?_)
          obtain ⟨mo45, cs45, hM45, hA45, hC45⟩ := h_out
          refine VO.app 103 rfl rfl rfl tsl30 tz35 rfl rfl hM45 hA45 (.row 144 _ _ _ 1 1 _ _ Try.underlying30 rfl (cellsAt_one rfl rfl)) (by simp [Value.oneCell']) bdm bd (by decide) (fun v45 m45 hN45 => ?_)
          have ho45 : OwnL TOp m45 mnil v45 (out ++ [x42]) := OwnL.one hC45 hN45 (Rd.flat rfl hre42 _)
          obtain ⟨A45, c45, rfl, l45, k45⟩ := ho45.slice
          simp only [maxLen] at k45
          refine VO.as ?_
          refine VO.clsP 146 [141, 140] rfl (fun hg46 => (show Ow (.ptr Tref07Table) _ _ (_, d0) from (mkP_ref07Table d0.1 d0.2 hg46 (OwnL.ow (Ow.ownl q39_1 rfl mnil) rfl)))) (fun mc46 ho46 => ?_)
          refine VO.k9 0 1 3 4 5 6 13 30 45 ?_
          refine outBN ?_
          refine outN ?_
          refine VC.reg ?_
          refine VO.mv ?_
          refine VO.y rfl (.add (c := ((k + 1 : Nat) : Int)) rfl rfl (by omega) ⟨bd, bd⟩) ?_
          refine VO.as ?_
          refine VO.kp [146, 103, 102, 0] [(146, mc46), (103, m45), (102, mone g1 (.cells [Value.bool d1.1, str (d1.2.1), str (d1.2.2)].toArray 35 (0, 0))), (0, mout (wm W) (m0))] ?_
          refine VO.k9 0 1 3 4 5 6 13 30 45 ?_
          exact outN ⟨⟨k + 1, out ++ [x42], A45, c45, m45, put, mc46⟩, ⟨by omega, by first | exact one_a hg (by assumption) (by assumption) (by assumption) (by assumption) (by assumption) (by assumption) | exact one_b hg (by assumption) (by assumption) (by assumption) (by assumption) (by assumption) | exact one_c hg (by assumption) (by assumption) (by assumption) (by assumption) (by assumption) (by assumption) | exact one_d hg (by assumption) (by assumption) (by assumption) (by assumption) | exact one_e hg (by assumption) (by assumption) (by assumption) | exact (one_f (by assumption) (by assumption) (by assumption) (by assumption)).elim, by (simp only [List.length_append, List.length_cons, List.length_nil]; omega), ho45, ho46⟩, bd, ⟨⟨rfl, rfl, rfl, rfl, rfl, rfl, trivial⟩, fun _ h => Inv.sub (Inv.num h 146 1 rfl) [103, 102, 0, 1]⟩⟩
        · -- TTFF
          refine VC.skip ?_
          refine outBN ?_
          refine outN ?_
          refine VC.reg ?_
          refine VO.mv ?_
          refine VO.y rfl (.add (c := ((k + 1 : Nat) : Int)) rfl rfl (by omega) ⟨bd, bd⟩) ?_
          refine VO.as ?_
          refine VO.k9 0 1 3 4 5 6 13 30 45 ?_
          exact outN ⟨⟨k + 1, out, out_A, out_c, out_m, put, mc37⟩, ⟨by omega, by first | exact one_a hg (by assumption) (by assumption) (by assumption) (by assumption) (by assumption) (by assumption) | exact one_b hg (by assumption) (by assumption) (by assumption) (by assumption) (by assumption) | exact one_c hg (by assumption) (by assumption) (by assumption) (by assumption) (by assumption) (by assumption) | exact one_d hg (by assumption) (by assumption) (by assumption) (by assumption) | exact one_e hg (by assumption) (by assumption) (by assumption) | exact (one_f (by assumption) (by assumption) (by assumption) (by assumption)).elim, by (simp only [List.length_append, List.length_cons, List.length_nil]; omega), h_out, ho37⟩, bd, ⟨⟨rfl, rfl, rfl, rfl, rfl, rfl, trivial⟩, fun _ h => Inv.sub (Inv.num h 137 1 rfl) [103, 102, 0, 1]⟩⟩
    · -- TF
      refine VD.gn rfl rfl (.inl ⟨_, rfl, rfl⟩) ?_
      refine VD.gn rfl rfl (.inl ⟨_, rfl, rfl⟩) ?_
      refine VD.gn rfl rfl (.inl ⟨_, rfl, rfl⟩) ?_
      refine VD.gn rfl rfl (.inl ⟨_, rfl, rfl⟩) ?_
      refine VD.gn rfl rfl (.inl ⟨_, rfl, rfl⟩) ?_
      refine VD.gn rfl rfl (.inl ⟨_, rfl, rfl⟩) ?_
      refine VD.gn rfl rfl (.inl ⟨_, rfl, rfl⟩) ?_
      refine VD.gn rfl rfl (.inl ⟨_, rfl, rfl⟩) ?_
      refine VD.gn rfl rfl (.inl ⟨_, rfl, rfl⟩) ?_
      refine VD.gn rfl rfl (.inl ⟨_, rfl, rfl⟩) ?_
      refine VD.nil rfl ?_ rfl
      refine VO.gN ?_
      refine VO.y rfl (.pF rfl rfl) ?_
      refine VO.clsP 147 [111, 110] rfl (fun hg47 => (show Ow (.ptr Tref07Table) _ _ (_, d0) from (mkP_ref07Table d0.1 d0.2 hg47 (OwnL.ow (Ow.ownl q9_1 rfl mnil) rfl)))) (fun mc47 ho47 => ?_)
      refine VO.kp [147, 103, 102, 0] [(147, mc47), (103, out_m), (102, mone g1 (.cells [Value.bool d1.1, str (d1.2.1), str (d1.2.2)].toArray 35 (0, 0))), (0, mout (wm W) (m0))] ?_
      refine VO.k8 0 1 3 4 5 6 13 30 ?_
      refine outN ?_
      refine VC.condF rfl ?_
      refine VC.skip ?_
      refine outN ?_
      refine VC.seq ?_
      obtain ⟨q48_E, q48_A1, q48_c1, q48_n1, _, q48_S, q48_1⟩ := openP_ref07Table (x0 := d0.1) (x1 := d0.2) ho47
      have q48_r1 := q48_1.rm
      refine VC.inv _ (fun _ h => h.parts (i := 147) rfl q48_S [150, 149]) ?_
      refine VC.regD _ 10 [(0, true), (1, true), (2, true), (3, true), (4, true), (5, true), (6, true), (7, true), (8, true), (9, true)] follows (by kernel_rfl) (fun _ h => h.sub [150, 149, 103, 102, 0]) ?_
      refine VD.y rfl rfl (.inl rfl) (.mv rfl) ?_
      refine VD.y rfl rfl (.inl rfl) (.nilp rfl) ?_
      refine VD.y rfl rfl (.inl rfl) (.fa rfl tst127 rfl) ?_
      refine VD.y rfl rfl (.inl rfl) (.ld1 150 rfl tk30 rfl (cellsAt_one rfl rfl)) ?_
      refine VD.y rfl rfl (.inl rfl) (.mv rfl) ?_
      obtain ⟨x51, hx51⟩ : ∃ z_, (d0.2)[k]? = some z_ := ⟨_, List.getElem?_eq_getElem bd⟩
      obtain ⟨gg51, oo51, ec51, ea51, hce51, hre51⟩ := (Ow.ownl q48_1 rfl mnil).elem hx51
      cases ea51
      obtain ⟨rfl, q51_1, q51_2⟩ := open_Op (x0 := x51.1) (x1 := x51.2.1) (x2 := x51.2.2) hre51
      simp only [maxLen] at q51_1
      simp only [maxLen] at q51_2
      refine VD.y rfl rfl (.inl rfl) (.ixI k rfl rfl tsl30 rfl bd) ?_
      refine VD.y rfl rfl (.inl rfl) (.fa rfl tst35 rfl) ?_
      refine VD.y rfl rfl (.inl rfl) (.ld1 149 rfl tk9 rfl (hce51.at1 (j := 1) rfl)) ?_
      refine VD.y rfl rfl (.inl rfl) (.fa rfl tst35 rfl) ?_
      refine VD.y rfl rfl (.inl rfl) (.ld1 102 rfl tk9 rfl (cellsAt_one rfl rfl)) ?_
      refine VD.nil rfl ?_ rfl
      refine VO.y rfl (.sneq rfl rfl) ?_
      refine VO.clsP 152 [150, 149] rfl (fun hg52 => (show Ow (.ptr Tref07Table) _ _ (_, d0) from (mkP_ref07Table d0.1 d0.2 hg52 (OwnL.ow (Ow.ownl q48_1 rfl mnil) rfl)))) (fun mc52 ho52 => ?_)
      refine VO.k9 0 1 3 4 5 6 13 30 45 ?_
      refine outN ?_
      refine VC.cond rfl (fun hc53 => ?_) (fun hc53 => ?_)
      · -- TFT
        refine VC.reg ?_
        refine VO.mv ?_
        refine VO.mv ?_
        refine VO.y rfl (.nilp rfl) ?_
        refine VO.y rfl (.fa rfl tst127 rfl) ?_
        obtain ⟨q54_E, q54_A1, q54_c1, q54_n1, _, q54_S, q54_1⟩ := openP_ref07Table (x0 := d0.1) (x1 := d0.2) ho52
        have q54_r1 := q54_1.rm
        refine VO.inv _ (fun _ h => h.parts (i := 152) rfl q54_S [156, 155]) ?_
        refine VO.y rfl (.ld1 156 rfl tk30 rfl (cellsAt_one rfl rfl)) ?_
        refine VO.mv ?_
        obtain ⟨x57, hx57⟩ : ∃ z_, (d0.2)[k]? = some z_ := ⟨_, List.getElem?_eq_getElem bd⟩
        obtain ⟨gg57, oo57, ec57, ea57, hce57, hre57⟩ := (Ow.ownl q54_1 rfl mnil).elem hx57
        cases ea57
        obtain ⟨rfl, q57_1, q57_2⟩ := open_Op (x0 := x57.1) (x1 := x57.2.1) (x2 := x57.2.2) hre57
        simp only [maxLen] at q57_1
        simp only [maxLen] at q57_2
        refine VO.y rfl (.ixI k rfl rfl tsl30 rfl bd) ?_
        refine VO.y rfl (.ldA 155 rfl tk35 rfl hce57) ?_
        refine VO.bsl (cs := [Value.bool x57.1, str (x57.2.1), str (x57.2.2)]) 159 rfl rfl tsl30 tz35 rfl rfl (fun g58 => ?_)
        obtain ⟨mo60, cs60, hM60, hA60, hC60⟩ := h_out
        refine VO.app 103 rfl rfl rfl tsl30 tz35 rfl rfl hM60 hA60 (.row 159 _ _ _ 1 1 _ _ Try.underlying30 rfl (cellsAt_one rfl rfl)) (by simp [Value.oneCell']) bdm bd (by decide) (fun v60 m60 hN60 => ?_)
        have ho60 : OwnL TOp m60 mnil v60 (out ++ [x57]) := OwnL.one hC60 hN60 (Rd.flat rfl hre57 _)
        obtain ⟨A60, c60, rfl, l60, k60⟩ := ho60.slice
        simp only [maxLen] at k60
        refine VO.as ?_
        refine VO.clsP 161 [156, 155] rfl (fun hg61 => (show Ow (.ptr Tref07Table) _ _ (_, d0) from (mkP_ref07Table d0.1 d0.2 hg61 (OwnL.ow (Ow.ownl q54_1 rfl mnil) rfl)))) (fun mc61 ho61 => ?_)
        refine VO.k9 0 1 3 4 5 6 13 30 45 ?_
        refine outBN ?_
        refine outN ?_
        refine VC.reg ?_
        refine VO.mv ?_
        refine VO.y rfl (.add (c := ((k + 1 : Nat) : Int)) rfl rfl (by omega) ⟨bd, bd⟩) ?_
        refine VO.as ?_
        refine VO.kp [161, 103, 102, 0] [(161, mc61), (103, m60), (102, mone g1 (.cells [Value.bool d1.1, str (d1.2.1), str (d1.2.2)].toArray 35 (0, 0))), (0, mout (wm W) (m0))] ?_
        refine VO.k9 0 1 3 4 5 6 13 30 45 ?_
        exact outN ⟨⟨k + 1, out ++ [x57], A60, c60, m60, put, mc61⟩, ⟨by omega, by first | exact one_a hg (by assumption) (by assumption) (by assumption) (by assumption) (by assumption) (by assumption) | exact one_b hg (by assumption) (by assumption) (by assumption) (by assumption) (by assumption) | exact one_c hg (by assumption) (by assumption) (by assumption) (by assumption) (by assumption) (by assumption) | exact one_d hg (by assumption) (by assumption) (by assumption) (by assumption) | exact one_e hg (by assumption) (by assumption) (by assumption) | exact (one_f (by assumption) (by assumption) (by assumption) (by assumption)).elim, by (simp only [List.length_append, List.length_cons, List.length_nil]; omega), ho60, ho61⟩, bd, ⟨⟨rfl, rfl, rfl, rfl, rfl, rfl, trivial⟩, fun _ h => Inv.sub (Inv.num h 161 1 rfl) [103, 102, 0, 1]⟩⟩
      · -- TFF
        refine VC.skip ?_
        refine outBN ?_
        refine outN ?_
        refine VC.reg ?_
        refine VO.mv ?_
        refine VO.y rfl (.add (c := ((k + 1 : Nat) : Int)) rfl rfl (by omega) ⟨bd, bd⟩) ?_
        refine VO.as ?_
        refine VO.k9 0 1 3 4 5 6 13 30 45 ?_
        exact outN ⟨⟨k + 1, out, out_A, out_c, out_m, put, mc52⟩, ⟨by omega, by first | exact one_a hg (by assumption) (by assumption) (by assumption) (by assumption) (by assumption) (by assumption) | exact one_b hg (by assumption) (by assumption) (by assumption) (by assumption) (by assumption) | exact one_c hg (by assumption) (by assumption) (by assumption) (by assumption) (by assumption) (by assumption) | exact one_d hg (by assumption) (by assumption) (by assumption) (by assumption) | exact one_e hg (by assumption) (by assumption) (by assumption) | exact (one_f (by assumption) (by assumption) (by assumption) (by assumption)).elim, by (simp only [List.length_append, List.length_cons, List.length_nil]; omega), h_out, ho52⟩, bd, ⟨⟨rfl, rfl, rfl, rfl, rfl, rfl, trivial⟩, fun _ h => Inv.sub (Inv.num h 152 1 rfl) [103, 102, 0, 1]⟩⟩
  · -- F
    refine VC.exit ?_
    refine outE ?_
    refine outE ?_
    refine outBB ?_
    refine outN ?_
    refine VC.seq ?_
    refine VC.rs ?_
    refine VO.mv ?_
    refine VO.y rfl (.not rfl) ?_
    refine VO.kp [107, 103, 102, 0] [(107, mc7), (103, out_m), (102, mone g1 (.cells [Value.bool d1.1, str (d1.2.1), str (d1.2.2)].toArray 35 (0, 0))), (0, mout (wm W) (m0))] ?_
    refine VO.k8 0 1 3 4 5 6 13 57 ?_
    refine VC.condBN rfl (fun hc62 => ?_) (fun hc62 => ?_)
    · -- FT
      refine VC.reg ?_
      refine VO.mv ?_
      refine VO.y rfl (.ldA 102 rfl tk35 rfl (cellsAt_one rfl rfl)) ?_
      refine VO.bsl (cs := [Value.bool d1.1, str (d1.2.1), str (d1.2.2)]) 164 rfl rfl tsl30 tz35 rfl rfl (fun g63 => ?_)
      obtain ⟨mo65, cs65, hM65, hA65, hC65⟩ := h_out
      refine VO.app 103 rfl rfl rfl tsl30 tz35 rfl rfl hM65 hA65 (.row 164 _ _ _ 1 1 _ _ Try.underlying30 rfl (cellsAt_one rfl rfl)) (by simp [Value.oneCell']) bdm bd (by decide) (fun v65 m65 hN65 => ?_)
      have ho65 : OwnL TOp m65 mnil v65 (out ++ [d1]) := OwnL.one hC65 hN65 (Rd.flat rfl h1 _)
      obtain ⟨A65, c65, rfl, l65, k65⟩ := ho65.slice
      simp only [maxLen] at k65
      refine VO.as ?_
      refine VO.k8 0 1 3 4 5 6 13 57 ?_
      refine outN ?_
      refine VC.reg ?_
      refine VO.mv ?_
      refine VO.mv ?_
      refine VO.y rfl (.nilp rfl) ?_
      refine VO.y rfl (.fa rfl tst127 rfl) ?_
      obtain ⟨q66_E, q66_A1, q66_c1, q66_n1, _, q66_S, q66_1⟩ := openP_ref07Table (x0 := d0.1) (x1 := d0.2) ho7
      have q66_r1 := q66_1.rm
      refine VO.inv _ (fun _ h => h.parts (i := 107) rfl q66_S [168, 167]) ?_
      refine VO.store (k := 1) (c' := [Value.bool d0.1, Value.slice A65 ((out ++ [d1]).length) (c65)]) 168 rfl rfl (.inr ⟨tk30, rfl⟩) rfl rfl rfl rfl rfl ?_
      refine VO.k8 0 1 3 4 5 6 13 57 ?_
      refine ⟨_, _, res_run (rs := []) rfl .nil, fun W_ hI => out_of (l := [mone g0 (.cells [Value.bool d0.1, Value.slice A65 ((out ++ [d1]).length) (c65)].toArray q66_E (0, 0)), m65]) hI [168, 103] rfl rfl (mle_refl _) (fun hS_ => ?_)⟩
      dsimp only [packV]
      have hm0_ : ((d0.1, tOne d0.2 d1) : Dref07Table) = (d0.1, out ++ [d1]) := by first | rfl | ((rw [hg, List.drop_of_length_le (by omega)]; simp [goOne, *]; done))
      refine ⟨?_, ?_⟩
      rotate_left
      · rw [hm0_]; exact (mkP_ref07Table d0.1 (out ++ [d1]) hS_ (OwnL.ow ho65 rfl))
      all_goals (first | rfl | (simp [*]; done))
    · -- FF
      refine VC.skip ?_
      refine outN ?_
      refine VC.reg ?_
      refine VO.mv ?_
      refine VO.mv ?_
      refine VO.y rfl (.nilp rfl) ?_
      refine VO.y rfl (.fa rfl tst127 rfl) ?_
      obtain ⟨q69_E, q69_A1, q69_c1, q69_n1, _, q69_S, q69_1⟩ := openP_ref07Table (x0 := d0.1) (x1 := d0.2) ho7
      have q69_r1 := q69_1.rm
      refine VO.inv _ (fun _ h => h.parts (i := 107) rfl q69_S [171, 170]) ?_
      refine VO.store (k := 1) (c' := [Value.bool d0.1, Value.slice out_A (out.length) (out_c)]) 171 rfl rfl (.inr ⟨tk30, rfl⟩) rfl rfl rfl rfl rfl ?_
      refine VO.k8 0 1 3 4 5 6 13 57 ?_
      refine ⟨_, _, res_run (rs := []) rfl .nil, fun W_ hI => out_of (l := [mone g0 (.cells [Value.bool d0.1, Value.slice out_A (out.length) (out_c)].toArray q69_E (0, 0)), out_m]) hI [171, 103] rfl rfl (mle_refl _) (fun hS_ => ?_)⟩
      dsimp only [packV]
      have hm0_ : ((d0.1, tOne d0.2 d1) : Dref07Table) = (d0.1, out) := by first | rfl | ((rw [hg, List.drop_of_length_le (by omega)]; simp [goOne, *]; done))
      refine ⟨?_, ?_⟩
      rotate_left
      · rw [hm0_]; exact (mkP_ref07Table d0.1 out hS_ (OwnL.ow h_out rfl))
      all_goals (first | rfl | (simp [*]; done))
theorem t7Apply_ok (W : World) {m0 : Mem} (hm : mle (m0) (wm W)) {g0 : Nat} {d0 : Dref07Table} (h0 : Ow (.ptr Tref07Table) m0 [.pointer (some ⟨g0, 0, none⟩)] (g0, d0)) {v1 : Value} {d1 : List DOp} (h1 : Rd (.sl TOp) (mout (wm W) (m0)) [v1] d1) (e0 : d0.1 = true) (e1 : d0.2.length + d1.length ≤ 1700000000000) : CallR Try.prog 67 [.pointer (some ⟨g0, 0, none⟩), v1] W (m0) (fun v m' => v = .int .i64 ((tApply d0 d1).2) ∧ Ow (.ptr Tref07Table) m' [.pointer (some ⟨g0, 0, none⟩)] (g0, (tApply d0 d1).1)) := by
  obtain ⟨A1, c1, rfl, l1, k1⟩ := h1.slice
  simp only [maxLen] at k1
  refine CallR.ofB (n := 33) hm Try.func67 rfl rfl rfl ?_
  refine VC.rs ?_
  refine VO.as ?_
  refine VO.k3 0 1 4 ?_
  refine VC.seq ?_
  refine VC.rs ?_
  refine VO.mv ?_
  refine VO.call 1 rfl fnOk86 rfl rfl (fun W hW => t7None_ok W (hW.at (i := 1) rfl) h0) (fun v1 m1 hv1 => ?_)
  obtain ⟨rfl, w1_0⟩ := hv1
  refine VO.k4 0 1 4 8 ?_
  refine VC.cond rfl (fun hc2 => ?_) (fun hc2 => ?_)
  · -- T
    rw [e0] at hc2; cases hc2
  · -- F
    refine VC.skip ?_
    refine outN ?_
    refine VC.seq ?_
    refine VC.rs ?_
    refine VO.as ?_
    refine VO.kp [1, 0] [(1, m1), (0, mout (wm W) (m0))] ?_
    refine VO.k5 0 1 4 5 8 ?_
    refine VC.block ?_
    refine VC.loop (G := Nat) (fun k => [(5, Value.int .i64 (((k : Nat) : Int))), (0, Value.pointer (some ⟨g0, 0, none⟩)), (1, Value.slice A1 (d1.length) (c1)), (8, Value.bool (decide (d0.1 = false)))]) (fun k => [(1, m1), (0, mout (wm W) (m0))]) (fun k => (k ≤ d1.length) ∧ (∀ o ∈ d1.take k, opCheck o = 0)) (fun k => d1.length - k) 0 (⟨by omega, by simp⟩) ⟨⟨rfl, rfl, rfl, rfl, trivial⟩, fun _ h => h.sub [1, 0]⟩ ?_
    rintro k ⟨hk, ha⟩
    refine VC.seq ?_
    refine VC.rs ?_
    refine VO.mv ?_
    refine VO.mv ?_
    refine VO.y rfl (.lenS rfl tsl30) ?_
    refine VO.y rfl (.lss rfl rfl) ?_
    refine VO.k5 0 1 5 8 12 ?_
    refine VC.cond rfl (fun hc3 => ?_) (fun hc3 => ?_)
    · -- FT
      refine VC.skip ?_
      refine outN ?_
      refine VC.seq ?_
      refine VC.block ?_
      refine VC.rs ?_
      refine VO.mv ?_
      refine VO.mv ?_
      obtain ⟨x4, hx4⟩ : ∃ z_, (d1)[k]? = some z_ := ⟨_, List.getElem?_eq_getElem bd⟩
      obtain ⟨gg4, oo4, ec4, ea4, hce4, hre4⟩ := h1.elem hx4
      cases ea4
      obtain ⟨rfl, q4_1, q4_2⟩ := open_Op (x0 := x4.1) (x1 := x4.2.1) (x2 := x4.2.2) hre4
      simp only [maxLen] at q4_1
      simp only [maxLen] at q4_2
      refine VO.y rfl (.ixI k rfl rfl tsl30 rfl bd) ?_
      refine VO.y rfl (.ldA 0 rfl tk35 rfl hce4) ?_
      refine VO.callN 105 rfl fnOk61 rfl (fun W hW => refOpCheck_ok W (Rd.mono hre4 (hW.at (i := 0) rfl))) (fun v5 m5 hv5 => ?_)
      subst hv5
      refine VO.y rfl (.neq rfl rfl) ?_
      refine VO.k6 0 1 5 8 12 20 ?_
      refine VC.cond rfl (fun hc6 => ?_) (fun hc6 => ?_)
      · -- FTT
        refine VC.rs ?_
        refine VO.as ?_
        refine VO.kp [1, 0] [(1, m1), (0, mout (wm W) (m0))] ?_
        refine VO.k7 0 1 4 5 8 12 20 ?_
        refine VC.ret ?_
        refine outBR ?_
        refine outR ?_
        refine outR ?_
        refine outBR ?_
        refine outR ?_
        refine ⟨_, _, res_run (rs := [.tmp 4]) rfl (.tmp rfl .nil), fun W_ hI => out_of (l := [m1]) hI [1] rfl rfl (mle_refl _) (fun hS_ => ?_)⟩
        dsimp only [packV]
        have hm0_ : ((tApply d0 d1).1 : Dref07Table) = d0 := by first | rfl | (first | exact congrArg Prod.fst (tApply_bad e0 ‹d1[k]? = some _› (by assumption)) | (rw [tApply_good e0 (by have h_ := ha; rw [List.take_of_length_le (by omega)] at h_; exact h_), ht, List.take_of_length_le (by omega)]; done))
        refine ⟨?_, ?_⟩
        rotate_left
        · rw [hm0_]; exact (Ow.up w1_0 (hS_.1 _ (.head _)))
        all_goals (first | rfl | (first | exact congrArg (Value.int _) (congrArg Prod.snd (tApply_bad e0 ‹d1[k]? = some _› (by assumption))).symm | exact congrArg (Value.int _) (congrArg Prod.snd (tApply_good e0 (by have h_ := ha; rw [List.take_of_length_le (by omega)] at h_; exact h_))).symm))
      · -- FTF
        refine VC.skip ?_
        refine outBN ?_
        refine outN ?_
        refine VC.reg ?_
        refine VO.mv ?_
        refine VO.y rfl (.add (c := ((k + 1 : Nat) : Int)) rfl rfl (by omega) ⟨bd, bd⟩) ?_
        refine VO.as ?_
        refine VO.kp [1, 0] [(1, m1), (0, mout (wm W) (m0))] ?_
        refine VO.k6 0 1 5 8 12 20 ?_
        exact outN ⟨k + 1, ⟨by omega, by exact all_one ha ‹d1[k]? = some _› (by assumption)⟩, bd, ⟨⟨rfl, rfl, rfl, rfl, trivial⟩, fun _ h => Inv.sub h [1, 0]⟩⟩
    · -- FF
      refine VC.exit ?_
      refine outE ?_
      refine outE ?_
      refine outBB ?_
      refine outN ?_
      refine VC.seq ?_
      refine VC.rs ?_
      refine VO.as ?_
      refine VO.k6 0 1 5 6 8 12 ?_
      refine VC.block ?_
      refine VC.loop (G := Nat × Dref07Table × Mem) (fun g => [(6, Value.int .i64 ((((g.1) : Nat) : Int))), (0, Value.pointer (some ⟨g0, 0, none⟩)), (1, Value.slice A1 (d1.length) (c1)), (5, Value.int .i64 (((k : Nat) : Int))), (8, Value.bool (decide (d0.1 = false))), (12, Value.bool (decide (((k : Nat) : Int) < ((d1.length : Nat) : Int))))]) (fun g => [(1, (g.2.2)), (0, mout (wm W) (m0))]) (fun g => ((g.1) ≤ d1.length) ∧ ((g.2.1) = (true, (d1.take (g.1)).foldl tOne d0.2)) ∧ (Ow (.ptr Tref07Table) (g.2.2) [.pointer (some ⟨g0, 0, none⟩)] (g0, (g.2.1)))) (fun g => d1.length - (g.1)) (0, d0, m1) (⟨by omega, by (rw [← e0]; rfl), w1_0⟩) ⟨⟨rfl, rfl, rfl, rfl, rfl, rfl, trivial⟩, fun _ h => h.sub [1, 0]⟩ ?_
      rintro ⟨j, t, t_m⟩ ⟨hj, ht, h_t⟩
      replace hj : j ≤ d1.length := hj
      replace ht : t = (true, (d1.take j).foldl tOne d0.2) := ht
      replace h_t : Ow (.ptr Tref07Table) t_m [.pointer (some ⟨g0, 0, none⟩)] (g0, t) := h_t
      show VC _ _ _ _ _ [(6, Value.int .i64 (((j : Nat) : Int))), (0, Value.pointer (some ⟨g0, 0, none⟩)), (1, Value.slice A1 (d1.length) (c1)), (5, Value.int .i64 (((k : Nat) : Int))), (8, Value.bool (decide (d0.1 = false))), (12, Value.bool (decide (((k : Nat) : Int) < ((d1.length : Nat) : Int))))] [(1, t_m), (0, mout (wm W) (m0))]
      have hfl := tfold_len (d1.take j) d0.2
      have htl : t.2.length ≤ d0.2.length + j := by rw [ht]; simp only [List.length_take] at hfl; dsimp only; omega
      refine VC.seq ?_
      refine VC.rs ?_
      refine VO.mv ?_
      refine VO.mv ?_
      refine VO.y rfl (.lenS rfl tsl30) ?_
      refine VO.y rfl (.lss rfl rfl) ?_
      refine VO.kp [1, 0] [(1, t_m), (0, mout (wm W) (m0))] ?_
      refine VO.k7 0 1 5 6 8 12 24 ?_
      refine VC.cond rfl (fun hc7 => ?_) (fun hc7 => ?_)
      · -- FFT
        refine VC.skip ?_
        refine outN ?_
        refine VC.seq ?_
        refine VC.block ?_
        refine VC.reg ?_
        refine VO.mv ?_
        refine VO.mv ?_
        refine VO.mv ?_
        obtain ⟨x8, hx8⟩ : ∃ z_, (d1)[j]? = some z_ := ⟨_, List.getElem?_eq_getElem bd⟩
        obtain ⟨gg8, oo8, ec8, ea8, hce8, hre8⟩ := h1.elem hx8
        cases ea8
        obtain ⟨rfl, q8_1, q8_2⟩ := open_Op (x0 := x8.1) (x1 := x8.2.1) (x2 := x8.2.2) hre8
        simp only [maxLen] at q8_1
        simp only [maxLen] at q8_2
        refine VO.y rfl (.ixI j rfl rfl tsl30 rfl bd) ?_
        refine VO.y rfl (.ldA 0 rfl tk35 rfl hce8) ?_
        refine VO.call 1 rfl fnOk87 rfl rfl (fun W hW => t7One_ok W (hW.at (i := 1) rfl) h_t (Rd.mono hre8 (hW.out (i := 1) (j := 0) rfl rfl)) bd) (fun v9 m9 hv9 => ?_)
        obtain ⟨rfl, w9_0⟩ := hv9
        have hfa10 := tOne_len t.2 x8
        refine VO.k7 0 1 5 6 8 12 24 ?_
        refine outBN ?_
        refine outN ?_
        refine VC.reg ?_
        refine VO.mv ?_
        refine VO.y rfl (.add (c := ((j + 1 : Nat) : Int)) rfl rfl (by omega) ⟨bd, bd⟩) ?_
        refine VO.as ?_
        refine VO.k7 0 1 5 6 8 12 24 ?_
        exact outN ⟨⟨j + 1, (t.1, tOne t.2 x8), m9⟩, ⟨by omega, by (rw [ht, take_fold ‹d1[j]? = some _›]), w9_0⟩, bd, ⟨⟨rfl, rfl, rfl, rfl, rfl, rfl, trivial⟩, fun _ h => Inv.sub h [1, 0]⟩⟩
      · -- FFF
        refine VC.exit ?_
        refine outE ?_
        refine outE ?_
        refine outBB ?_
        refine outN ?_
        refine VC.rs ?_
        refine VO.as ?_
        refine VO.k8 0 1 4 5 6 8 12 24 ?_
        refine VC.ret ?_
        refine ⟨_, _, res_run (rs := [.tmp 4]) rfl (.tmp rfl .nil), fun W_ hI => out_of (l := [t_m]) hI [1] rfl rfl (mle_refl _) (fun hS_ => ?_)⟩
        dsimp only [packV]
        have hm0_ : ((tApply d0 d1).1 : Dref07Table) = t := by first | rfl | (first | exact congrArg Prod.fst (tApply_bad e0 ‹d1[k]? = some _› (by assumption)) | (rw [tApply_good e0 (by have h_ := ha; rw [List.take_of_length_le (by omega)] at h_; exact h_), ht, List.take_of_length_le (by omega)]; done))
        refine ⟨?_, ?_⟩
        rotate_left
        · rw [hm0_]; exact (Ow.up h_t (hS_.1 _ (.head _)))
        all_goals (first | rfl | (first | exact congrArg (Value.int _) (congrArg Prod.snd (tApply_bad e0 ‹d1[k]? = some _› (by assumption))).symm | exact congrArg (Value.int _) (congrArg Prod.snd (tApply_good e0 (by have h_ := ha; rw [List.take_of_length_le (by omega)] at h_; exact h_))).symm))
theorem t7All_ok (W : World) {m0 : Mem} (hm : mle (m0) (wm W)) {g0 : Nat} {d0 : Dref07Table} (h0 : Ow (.ptr Tref07Table) m0 [.pointer (some ⟨g0, 0, none⟩)] (g0, d0)) (e0 : d0.1 = true) (e1 : d0.2.length ≤ 1700000000000) : CallR Try.prog 68 [.pointer (some ⟨g0, 0, none⟩)] W (m0) (fun v m' => ∃ (s0 : Value), ∃ (p0 : Mem), ∃ (p1 : Mem), v = s0 ∧ Seps m' [p0, p1] ∧ Ow (.sl TOp) p0 [s0] (d0.2) ∧ Ow (.ptr Tref07Table) p1 [.pointer (some ⟨g0, 0, none⟩)] (g0, d0)) := by
  refine CallR.ofB (n := 13) hm Try.func68 rfl rfl rfl ?_
  refine VC.rs ?_
  refine VO.as ?_
  refine VO.k2 0 2 ?_
  refine VC.rs ?_
  refine VO.as ?_
  refine VO.k3 0 2 3 ?_
  refine VC.seq ?_
  refine VC.rs ?_
  refine VO.mv ?_
  refine VO.call 1 rfl fnOk86 rfl rfl (fun W hW => t7None_ok W (hW.at (i := 1) rfl) h0) (fun v1 m1 hv1 => ?_)
  obtain ⟨rfl, w1_0⟩ := hv1
  refine VO.kp [1, 0] [(1, m1), (0, mout (wm W) (m0))] ?_
  refine VO.k4 0 2 3 5 ?_
  refine VC.cond rfl (fun hc2 => ?_) (fun hc2 => ?_)
  · -- T
    rw [e0] at hc2; cases hc2
  · -- F
    refine VC.skip ?_
    refine outN ?_
    refine VC.rs ?_
    refine VO.mv ?_
    refine VO.mv ?_
    refine VO.y rfl (.nilp rfl) ?_
    refine VO.y rfl (.fa rfl tst127 rfl) ?_
    obtain ⟨q3_E, q3_A1, q3_c1, q3_n1, _, q3_S, q3_1⟩ := openP_ref07Table (x0 := d0.1) (x1 := d0.2) w1_0
    have q3_r1 := q3_1.rm
    refine VO.inv _ (fun _ h => h.parts (i := 1) rfl q3_S [105, 104]) ?_
    refine VO.y rfl (.ld1 105 rfl tk30 rfl (cellsAt_one rfl rfl)) ?_
    refine VO.inv _ (fun _ h => h.nilc 107) ?_
    obtain ⟨mo6, cs6, hM6, hA6, hC6⟩ := (OwnL.nil TOp mnil mnil)
    obtain ⟨all6, hS6, hR6⟩ := Rd.srcI (P := Try.prog) ((OwnL.rd (Ow.ownl q3_1 rfl mnil) (mle_refl _) (mle_nil _))) Try.underlying30
    refine VO.app 107 rfl rfl rfl tsl30 tz35 rfl rfl hM6 hA6 (hS6 _ 104 rfl) hR6.nice bdm bd (by decide) (fun v6 m6 hN6 => ?_)
    have ho6 : OwnL TOp m6 mnil v6 (d0.2) := OwnL.more hC6 hN6 (All2c.mono hR6 fun _ _ h => Rd.flat rfl h _)
    obtain ⟨A6, c6, rfl, l6, k6⟩ := ho6.slice
    simp only [maxLen] at k6
    refine VO.as ?_
    refine VO.clsP 108 [105, 104] rfl (fun hg8 => (show Ow (.ptr Tref07Table) _ _ (_, d0) from (mkP_ref07Table d0.1 d0.2 hg8 (OwnL.ow (Ow.ownl q3_1 rfl mnil) rfl)))) (fun mc8 ho8 => ?_)
    refine VO.k4 0 2 3 5 ?_
    refine VC.ret ?_
    refine ⟨_, _, res_run (rs := [.tmp 2]) rfl (.tmp rfl .nil), fun W_ hI => out_of (l := [m6, mc8]) hI [107, 108] rfl rfl (mle_refl _) (fun hS_ => ?_)⟩
    dsimp only [packV]
    have he0 : (d0.2 : Ty.Den (.sl TOp)) = d0.2 := by first | rfl | (simp [*]; done)
    have hm0_ : (d0 : Dref07Table) = d0 := by first | rfl | (simp [*]; done)
    refine ⟨Value.slice A6 ((d0.2).length) (c6), muns [m6], muns [mc8], ?_, ?_, ?_, ?_⟩
    rotate_left
    · exact Seps.grp (ls := [[m6], [mc8]]) hS_
    · rw [he0]; exact (Ow.up (OwnL.ow ho6 rfl) ((Seps.self hS_ (List.Sublist.cons_cons _ (List.Sublist.cons _ List.Sublist.slnil))).1 _ (.head _)))
    · rw [hm0_]; exact (Ow.up ho8 ((Seps.self hS_ (List.Sublist.cons _ (List.Sublist.cons_cons _ List.Sublist.slnil))).1 _ (.head _)))
    all_goals (first | rfl | (simp [*]; done))
theorem sorted13_ok (W : World) {v0 : Value} {d0 : List DOp} (h0 : Rd (.sl TOp) (wm W) [v0] d0) (e0 : d0.length ≤ 1000000) : CallR Try.prog 31 [v0] W (mnil) (fun v m' => ∃ (s0 : Value), v = s0 ∧ Ow (.sl TOp) m' [s0] (sortedOf d0)) := by
  obtain ⟨A0, c0, rfl, l0, k0⟩ := h0.slice
  simp only [maxLen] at k0
  refine CallR.ofA (n := 21) Try.func31 rfl rfl rfl ?_
  refine VC.rs ?_
  refine VO.as ?_
  refine VO.k2 0 2 ?_
  refine VC.rs ?_
  refine VO.callN 101 rfl fnOk66 rfl (fun W hW => t7New_ok W ) (fun v1 m1 hv1 => ?_)
  obtain ⟨s1_0, rfl, f1_0⟩ := hv1
  refine VO.as ?_
  refine VO.k3 0 2 3 ?_
  refine VC.seq ?_
  refine VC.rs ?_
  refine VO.as ?_
  refine VO.kp [101, 0] [(101, m1), (0, wm W)] ?_
  refine VO.k4 0 2 3 4 ?_
  refine VC.block ?_
  refine VC.loop (G := Nat × Dref07Table × Mem) (fun g => [(4, Value.int .i64 ((((g.1) : Nat) : Int))), (0, Value.slice A0 (d0.length) (c0)), (2, Value.slice none (0) (0)), (3, Value.pointer (some ⟨s1_0, 0, none⟩))]) (fun g => [(101, (g.2.2)), (0, wm W)]) (fun g => ((g.1) ≤ d0.length) ∧ ((g.2.1).1 = true) ∧ ((g.2.1).2 = sortedOf (d0.take (g.1))) ∧ (Ow (.ptr Tref07Table) (g.2.2) [.pointer (some ⟨s1_0, 0, none⟩)] (s1_0, (g.2.1)))) (fun g => d0.length - (g.1)) (0, (true, []), m1) (⟨by omega, by rfl, by rfl, f1_0⟩) ⟨⟨rfl, rfl, rfl, rfl, trivial⟩, fun _ h => h.sub [101, 0]⟩ ?_
  rintro ⟨k, t, t_m⟩ ⟨hk, ht, hs, h_t⟩
  replace hk : k ≤ d0.length := hk
  replace ht : t.1 = true := ht
  replace hs : t.2 = sortedOf (d0.take k) := hs
  replace h_t : Ow (.ptr Tref07Table) t_m [.pointer (some ⟨s1_0, 0, none⟩)] (s1_0, t) := h_t
  show VC _ _ _ _ _ [(4, Value.int .i64 (((k : Nat) : Int))), (0, Value.slice A0 (d0.length) (c0)), (2, Value.slice none (0) (0)), (3, Value.pointer (some ⟨s1_0, 0, none⟩))] [(101, t_m), (0, wm W)]
  have hsu := (sorted_up (d0.take k)).2; rw [← hs] at hsu; simp only [List.length_take] at hsu
  refine VC.seq ?_
  refine VC.rs ?_
  refine VO.mv ?_
  refine VO.mv ?_
  refine VO.y rfl (.lenS rfl tsl30) ?_
  refine VO.y rfl (.lss rfl rfl) ?_
  refine VO.k5 0 2 3 4 9 ?_
  refine VC.cond rfl (fun hc2 => ?_) (fun hc2 => ?_)
  · -- T
    refine VC.skip ?_
    refine outN ?_
    refine VC.seq ?_
    refine VC.block ?_
    refine VC.reg ?_
    refine VO.mv ?_
    refine VO.mv ?_
    refine VO.mv ?_
    refine VO.mv ?_
    refine VO.y rfl (.add (c := ((k + 1 : Nat) : Int)) rfl rfl (by omega) ⟨bd, bd⟩) ?_
    obtain ⟨A3, hA3, hs3⟩ := h0.sub' 3 k (k + 1) rfl bd bd
    refine VO.y rfl (.slI k (k + 1) A3 rfl rfl rfl tsl30 rfl rfl hA3 bd bd) ?_
    refine VO.call 101 rfl fnOk67 rfl rfl (fun W hW => t7Apply_ok W (hW.at (i := 101) rfl) h_t (Rd.mono hs3 (hW.out (i := 101) (j := 0) rfl rfl)) (by assumption) bd) (fun v4 m4 hv4 => ?_)
    obtain ⟨rfl, w4_0⟩ := hv4
    have hfa5 := tApply_len t ((d0.take (k + 1)).drop k)
    refine VO.k5 0 2 3 4 9 ?_
    refine outBN ?_
    refine outN ?_
    refine VC.reg ?_
    refine VO.mv ?_
    refine VO.y rfl (.add (c := ((k + 1 : Nat) : Int)) rfl rfl (by omega) ⟨bd, bd⟩) ?_
    refine VO.as ?_
    refine VO.kp [101, 0] [(101, m4), (0, wm W)] ?_
    refine VO.k5 0 2 3 4 9 ?_
    exact outN ⟨⟨k + 1, (tApply t ((d0.take (k + 1)).drop k)).1, m4⟩, ⟨by omega, by exact (sorted_step ht hs (by omega)).2, by exact (sorted_step ht hs (by omega)).1, w4_0⟩, bd, ⟨⟨rfl, rfl, rfl, rfl, trivial⟩, fun _ h => Inv.sub h [101, 0]⟩⟩
  · -- F
    refine VC.exit ?_
    refine outE ?_
    refine outE ?_
    refine outBB ?_
    refine outN ?_
    refine VC.rs ?_
    refine VO.mv ?_
    refine VO.call 101 rfl fnOk68 rfl rfl (fun W hW => t7All_ok W (hW.at (i := 101) rfl) h_t (by assumption) bd) (fun v6 m6 hv6 => ?_)
    obtain ⟨s6_0, p6_0, p6_1, rfl, hS6, f6_0, w6_0⟩ := hv6
    refine VO.inv _ (fun _ h => h.parts (i := 101) rfl hS6 [107, 108]) ?_
    obtain ⟨A6_0, c6_0, eq6_0, l6_0, k6_0⟩ := f6_0.slice
    subst eq6_0
    simp only [maxLen] at k6_0
    refine VO.as ?_
    refine VO.k5 0 2 3 4 9 ?_
    refine VC.ret ?_
    refine ⟨_, _, res_run (rs := [.tmp 2]) rfl (.tmp rfl .nil), fun W_ hI => out_of (l := [p6_0]) hI [107] rfl rfl (mle_refl _) (fun hS_ => ?_)⟩
    dsimp only [packV]
    have he0 : (sortedOf d0 : Ty.Den (.sl TOp)) = t.2 := by first | rfl | ((rw [hs, List.take_of_length_le (by omega)]; done))
    refine ⟨Value.slice A6_0 (t.2.length) (c6_0), ?_, ?_⟩
    rotate_left
    · rw [he0]; exact (Ow.up (OwnL.ow (Ow.ownl f6_0 rfl mnil) rfl) (hS_.1 _ (.head _)))
    all_goals (first | rfl | (simp [*]; done))
def exR : DRun := (1, 2, [(false, [97], []), (true, [98], [49])])
def exR2 : DRun := (3, 3, [(true, [97], [57])])
def exBy : Bytes := [1, 2, 2, 0, 1, 97, 1, 1, 98, 1, 49]
theorem venc_byte {x : Nat} (h : x < 128) : venc x = [UInt8.ofNat x] := by rw [venc_last h, ofNat_mod]
theorem exR_body : runBody exR = exBy := by
  simp only [runBody, exR, opEnc, List.map_cons, List.map_nil, List.flatten_cons, List.flatten_nil, List.length_cons, List.length_nil, Int.toNat_one, show Int.toNat 2 = 2 from rfl]
  rw [venc_byte (x := 1) (by decide), venc_byte (x := 2) (by decide)]; decide
theorem exR2_body : runBody exR2 = [3, 3, 1, 1, 1, 97, 1, 57] := by
  simp only [runBody, exR2, opEnc, List.map_cons, List.map_nil, List.flatten_cons, List.flatten_nil, List.length_cons, List.length_nil, show Int.toNat 3 = 3 from rfl]
  rw [venc_byte (x := 3) (by decide), venc_byte (x := 0 + 1) (by decide)]; decide
theorem exR_frame : rFrame exR = 11 :: exBy := by
  unfold rFrame fEnc; rw [exR_body, venc_byte (by decide)]; rfl
theorem exR2_frame : rFrame exR2 = [8, 3, 3, 1, 1, 1, 97, 1, 57] := by
  unfold rFrame fEnc; rw [exR2_body, venc_byte (by decide)]; rfl
def ruD1 : DDisk := (dSync (dWrite newD 2 (11 :: exBy)).1).1
def ruD2 : DDisk := (dSync (dWrite ruD1 2 [8, 3, 3, 1, 1, 1, 97, 1, 57]).1).1
theorem ruE : runEncode exR = (exBy, 0) := by unfold runEncode; rw [if_pos (by decide), exR_body]
theorem ru0 : uOpen newD = (newD, 0) := by decide +kernel
theorem ru0l : (runF (dRead newD 2).1).1 = [] := by decide +kernel
theorem ru1 : uFlush newD false [] exR = ((ruD1, false, [exR]), 0) := by
  unfold uFlush; rw [if_neg (by decide), if_neg (by decide), if_neg (by decide), exR_frame, if_neg (by decide +kernel), if_neg (by decide +kernel)]; rfl
theorem ru2 : uFlush ruD1 false [exR] (4, 4, []) = ((ruD1, false, [exR]), 15) := by
  unfold uFlush; rw [if_neg (by decide +kernel), if_neg (by decide), if_pos (by decide)]
theorem ru3 : uFlush ruD1 false [exR] (3, 3, [(true, [97], [57])]) = ((ruD2, false, [exR, exR2]), 0) := by
  show uFlush ruD1 false [exR] exR2 = _
  unfold uFlush; rw [if_neg (by decide +kernel), if_neg (by decide), if_neg (by decide), exR2_frame, if_neg (by decide +kernel), if_neg (by decide +kernel)]; rfl
theorem ruG1 : getR [exR] [98] = ([49], true, true) := by decide
theorem ruG2 : getR [exR, exR2] [97] = ([57], true, true) := by decide
theorem ruG3 : getR [exR, exR2] [98] = ([49], true, true) := by decide
theorem ruG4 : getR [exR, exR2] [99] = ([], false, false) := by decide
theorem ruN1 : endR [exR] = 2 := by decide
theorem ruC1 : runCheck (2, 1, []) = 2 := by decide
theorem ruC2 : runCheck (1, 1, [(true, [98], []), (true, [97], [])]) = 2 := by decide
theorem ruC3 (x : DOp) : runCheck (1, 1, List.replicate 1025 x) = 3 := if_pos (by rw [List.length_replicate]; decide)
end Go.Proofs.Ytgmdjhdgaddigaa
