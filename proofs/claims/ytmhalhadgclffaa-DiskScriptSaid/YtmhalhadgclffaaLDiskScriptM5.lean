/- Part 5 of the proof of LDiskScript: what it needs of the library, the walks and the plain laws. Conditions: those named in each theorem. -/
import Derived.Test.YtmhalhadgclffaaLDiskScriptM4
namespace Go.Proofs.Ytmhalhadgclffaa
section
set_option linter.unusedVariables false
set_option linter.unusedSimpArgs false
set_option maxRecDepth 4000
theorem fnOk56 : fnOk Try.prog 56 = true := by kernel_rfl
theorem fnOk57 : fnOk Try.prog 57 = true := by kernel_rfl
theorem fin0_rCut_ok {P : Prop} (h : P := by first | (rw [cut_bad1 (by assumption)] <;> rfl) | (rw [cut_bad2 (by assumption) (.inl (fun q_ : inF d1 => by obtain ⟨q1_, q2_⟩ := q_; omega))] <;> rfl) | (rw [cut_bad2 (by assumption) (.inr (.inl (by assumption)))] <;> rfl) | (rw [cut_bad2 (by assumption) (.inr (.inr (by assumption)))] <;> rfl) | (rw [cut_go (by assumption) (Decidable.not_not.2 (show inF d1 from ⟨by omega, by omega⟩)) (by assumption) (by assumption) (Decidable.not_not.2 (burn_yes (by assumption)))]; done) | (rw [cut_off (by assumption) (Decidable.not_not.2 (show inF d1 from ⟨by omega, by omega⟩)) (by assumption) (by assumption) (burn_not (by assumption))]; exact congrArg (Value.int _) (if_neg (burn_not (by assumption)))) | (rw [cut_off (by assumption) (Decidable.not_not.2 (show inF d1 from ⟨by omega, by omega⟩)) (by assumption) (by assumption) (burn_not (by assumption))]; rfl) | (rw [cut_off (by assumption) (Decidable.not_not.2 (show inF d1 from ⟨by omega, by omega⟩)) (by assumption) (by assumption) (burn_not (by assumption)), if_neg (burn_not (by assumption))])) : P := h
theorem fin1_rCut_ok {P : Prop} (h : P := by first | (rw [cut_bad1 (by assumption), to_from]; done) | (rw [cut_bad2 (by assumption) (.inl (fun q_ : inF d1 => by obtain ⟨q1_, q2_⟩ := q_; omega)), to_from]; done) | (rw [cut_bad2 (by assumption) (.inr (.inl (by assumption))), to_from]; done) | (rw [cut_bad2 (by assumption) (.inr (.inr (by assumption))), to_from]; done) | (rw [cut_go (by assumption) (Decidable.not_not.2 (show inF d1 from ⟨by omega, by omega⟩)) (by assumption) (by assumption) (Decidable.not_not.2 (burn_yes (by assumption)))]; exact (rcut_next (to_from d0).symm rfl).symm) | (rw [cut_off (by assumption) (Decidable.not_not.2 (show inF d1 from ⟨by omega, by omega⟩)) (by assumption) (by assumption) (burn_not (by assumption))])) : P := h
theorem rCut_ok (W : World) {m0 : Mem} (hm : mle (m0) (wm W)) {g0 : Nat} {d0 : Dref05Disk} (h0 : Ow (.ptr Tref05Disk) m0 [.pointer (some ⟨g0, 0, none⟩)] (g0, d0)) (d1 : Int) (h1 : inK .i64 d1) (d2 : Int) (h2 : inK .i64 d2) (e0 : okR d0) (e1 : wD (fromR d0) ≤ 1000000000000) : CallR Try.prog 43 [.pointer (some ⟨g0, 0, none⟩), .int .i64 d1, .int .i64 d2] W (m0) (fun v m' => v = .int .i64 ((dCut (fromR d0) d1 d2).2) ∧ Ow (.ptr Tref05Disk) m' [.pointer (some ⟨g0, 0, none⟩)] (g0, toR (dCut (fromR d0) d1 d2).1 d0.2.2.2.2.2.1)) := by
  have h1' := h1; simp only [inK] at h1'
  have h2' := h2; simp only [inK] at h2'
  refine CallR.ofB (n := 48) hm Try.func43 rfl rfl rfl ?_
  refine VC.rs ?_
  refine VO.as ?_
  refine VO.k4 0 1 2 6 ?_
  refine VC.rs ?_
  refine VO.mv ?_
  refine VO.call 1 rfl fnOk54 rfl rfl (fun W hW => rAsked_ok W (hW.at (i := 1) rfl) h0) (fun v1 m1 hv1 => ?_)
  obtain ⟨rfl, w1_0⟩ := hv1
  refine VO.as ?_
  refine VO.k5 0 1 2 6 7 ?_
  refine VC.seq ?_
  refine VC.rs ?_
  refine VO.mv ?_
  refine VO.y rfl (.neq rfl rfl) ?_
  refine VO.keep [1, 0] [(1, m1), (0, mout (wm W) (m0))] (by kernel_rfl) ?_
  refine VO.k6 0 1 2 6 7 11 ?_
  refine VC.cond rfl (fun hc2 => ?_) (fun hc2 => ?_)
  · -- T
    refine VC.rs ?_
    refine VO.mv ?_
    refine VO.as ?_
    refine VO.k6 0 1 2 6 7 11 ?_
    refine VC.ret ?_
    refine outR ?_
    refine ⟨_, _, res_run (rs := [.tmp 6]) rfl (.tmp rfl .nil), fun W_ hI => out_of (l := [m1]) hI [1] rfl rfl (mle_refl _) (fun hS_ => ?_)⟩
    dsimp only [packV]
    have hm0_ : (toR (dCut (fromR d0) d1 d2).1 d0.2.2.2.2.2.1 : Dref05Disk) = d0 := by first | rfl | (exact fin1_rCut_ok)
    refine ⟨?_, ?_⟩
    rotate_left
    · rw [hm0_]; exact (Ow.up w1_0 (hS_.1 _ (.head _)))
    all_goals (first | rfl | (exact fin0_rCut_ok))
  · -- F
    refine VC.skip ?_
    refine outN ?_
    refine VC.seq ?_
    refine VC.rs ?_
    refine VO.mv ?_
    refine VO.y rfl (.lss rfl rfl) ?_
    refine VO.mv ?_
    refine VO.dec (t := 15) rfl (fun hc3 => ?_) (fun hc3 => ?_)
    · -- FT
      refine VO.gN ?_
      refine VO.gN ?_
      refine VO.y rfl (.pT rfl rfl) ?_
      refine VO.mv ?_
      refine VO.gN ?_
      refine VO.gN ?_
      refine VO.y rfl (.pT rfl rfl) ?_
      refine VO.mv ?_
      refine VO.gN ?_
      refine VO.gN ?_
      refine VO.gN ?_
      refine VO.gN ?_
      refine VO.gN ?_
      refine VO.gN ?_
      refine VO.y rfl (.pT rfl rfl) ?_
      refine VO.k7 0 1 2 6 7 11 30 ?_
      refine VC.condT rfl ?_
      refine VC.rs ?_
      refine VO.as ?_
      refine VO.k7 0 1 2 6 7 11 30 ?_
      refine VC.ret ?_
      refine outR ?_
      refine ⟨_, _, res_run (rs := [.tmp 6]) rfl (.tmp rfl .nil), fun W_ hI => out_of (l := [m1]) hI [1] rfl rfl (mle_refl _) (fun hS_ => ?_)⟩
      dsimp only [packV]
      have hm0_ : (toR (dCut (fromR d0) d1 d2).1 d0.2.2.2.2.2.1 : Dref05Disk) = d0 := by first | rfl | (exact fin1_rCut_ok)
      refine ⟨?_, ?_⟩
      rotate_left
      · rw [hm0_]; exact (Ow.up w1_0 (hS_.1 _ (.head _)))
      all_goals (first | rfl | (exact fin0_rCut_ok))
    · -- FF
      refine VO.gy rfl ⟨_, rfl, rfl⟩ (.mv rfl) ?_
      refine VO.gy rfl ⟨_, rfl, rfl⟩ (.geq rfl rfl) ?_
      refine VO.y rfl (.pF rfl rfl) ?_
      refine VO.mv ?_
      refine VO.dec (t := 19) rfl (fun hc4 => ?_) (fun hc4 => ?_)
      · -- FFT
        refine VO.gN ?_
        refine VO.gN ?_
        refine VO.y rfl (.pT rfl rfl) ?_
        refine VO.mv ?_
        refine VO.gN ?_
        refine VO.gN ?_
        refine VO.gN ?_
        refine VO.gN ?_
        refine VO.gN ?_
        refine VO.gN ?_
        refine VO.y rfl (.pT rfl rfl) ?_
        refine VO.k7 0 1 2 6 7 11 30 ?_
        refine VC.condT rfl ?_
        refine VC.rs ?_
        refine VO.as ?_
        refine VO.k7 0 1 2 6 7 11 30 ?_
        refine VC.ret ?_
        refine outR ?_
        refine ⟨_, _, res_run (rs := [.tmp 6]) rfl (.tmp rfl .nil), fun W_ hI => out_of (l := [m1]) hI [1] rfl rfl (mle_refl _) (fun hS_ => ?_)⟩
        dsimp only [packV]
        have hm0_ : (toR (dCut (fromR d0) d1 d2).1 d0.2.2.2.2.2.1 : Dref05Disk) = d0 := by first | rfl | (exact fin1_rCut_ok)
        refine ⟨?_, ?_⟩
        rotate_left
        · rw [hm0_]; exact (Ow.up w1_0 (hS_.1 _ (.head _)))
        all_goals (first | rfl | (exact fin0_rCut_ok))
      · -- FFF
        refine VO.gy rfl ⟨_, rfl, rfl⟩ (.mv rfl) ?_
        refine VO.gy rfl ⟨_, rfl, rfl⟩ (.lss rfl rfl) ?_
        refine VO.y rfl (.pF rfl rfl) ?_
        refine VO.mv ?_
        refine VO.dec (t := 23) rfl (fun hc5 => ?_) (fun hc5 => ?_)
        · -- FFFT
          refine VO.gN ?_
          refine VO.gN ?_
          refine VO.gN ?_
          refine VO.gN ?_
          refine VO.gN ?_
          refine VO.gN ?_
          refine VO.y rfl (.pT rfl rfl) ?_
          refine VO.k7 0 1 2 6 7 11 30 ?_
          refine VC.condT rfl ?_
          refine VC.rs ?_
          refine VO.as ?_
          refine VO.k7 0 1 2 6 7 11 30 ?_
          refine VC.ret ?_
          refine outR ?_
          refine ⟨_, _, res_run (rs := [.tmp 6]) rfl (.tmp rfl .nil), fun W_ hI => out_of (l := [m1]) hI [1] rfl rfl (mle_refl _) (fun hS_ => ?_)⟩
          dsimp only [packV]
          have hm0_ : (toR (dCut (fromR d0) d1 d2).1 d0.2.2.2.2.2.1 : Dref05Disk) = d0 := by first | rfl | (exact fin1_rCut_ok)
          refine ⟨?_, ?_⟩
          rotate_left
          · rw [hm0_]; exact (Ow.up w1_0 (hS_.1 _ (.head _)))
          all_goals (first | rfl | (exact fin0_rCut_ok))
        · -- FFFF
          refine VO.gy rfl ⟨_, rfl, rfl⟩ (.mv rfl) ?_
          refine VO.gy rfl ⟨_, rfl, rfl⟩ (.mv rfl) ?_
          refine VO.gy rfl ⟨_, rfl, rfl⟩ (.mv rfl) ?_
          refine VO.gcall 1 rfl ⟨_, rfl, rfl⟩ fnOk56 rfl rfl (fun W hW => rHolds_ok W (hW.at (i := 1) rfl) w1_0 d1 bdk (by assumption) bd (by first | assumption | exact ⟨by omega, by omega⟩)) (fun v6 m6 hv6 => ?_)
          obtain ⟨s6_0, p6_0, p6_1, rfl, hS6, f6_0, w6_0⟩ := hv6
          refine VO.inv _ (fun _ h => h.parts (i := 1) rfl hS6 [107, 108]) ?_
          have hfa9 := heldB_size d0.2.1 (d0.2.2.1.map stepOf) d1
          obtain ⟨A6_0, c6_0, eq6_0, l6_0, k6_0⟩ := f6_0.slice
          subst eq6_0
          simp only [maxLen] at k6_0
          refine VO.gy rfl ⟨_, rfl, rfl⟩ (.lenS rfl tsl27) ?_
          refine VO.gy rfl ⟨_, rfl, rfl⟩ (.gtr rfl rfl) ?_
          refine VO.y rfl (.pF rfl rfl) ?_
          refine VO.k7 0 1 2 6 7 11 30 ?_
          refine VC.cond rfl (fun hc10 => ?_) (fun hc10 => ?_)
          · -- FFFFT
            refine VC.rs ?_
            refine VO.as ?_
            refine VO.k7 0 1 2 6 7 11 30 ?_
            refine VC.ret ?_
            refine outR ?_
            refine ⟨_, _, res_run (rs := [.tmp 6]) rfl (.tmp rfl .nil), fun W_ hI => out_of (l := [p6_1]) hI [108] rfl rfl (mle_refl _) (fun hS_ => ?_)⟩
            dsimp only [packV]
            have hm0_ : (toR (dCut (fromR d0) d1 d2).1 d0.2.2.2.2.2.1 : Dref05Disk) = d0 := by first | rfl | (exact fin1_rCut_ok)
            refine ⟨?_, ?_⟩
            rotate_left
            · rw [hm0_]; exact (Ow.up w6_0 (hS_.1 _ (.head _)))
            all_goals (first | rfl | (exact fin0_rCut_ok))
          · -- FFFFF
            refine VC.skip ?_
            refine outN ?_
            refine VC.rs ?_
            refine VO.mv ?_
            refine VO.call 108 rfl fnOk55 rfl rfl (fun W hW => rStep_ok W (hW.at (i := 108) rfl) w6_0 (by assumption) bd) (fun v11 m11 hv11 => ?_)
            obtain ⟨rfl, w11_0⟩ := hv11
            have hfa12 := (show okR (toR ((burnD (fromR d0)).1) d0.2.2.2.2.2.1) from okR_to (burn_ok (show okD (fromR d0) from (show okR d0 by assumption))) (nf_burn (nf_from d0)))
            have hfa13 := (show wD (fromR (toR ((burnD (fromR d0)).1) d0.2.2.2.2.2.1)) ≤ _ by rw [from_to (burn_ok (show okD (fromR d0) from (show okR d0 by assumption))) (nf_burn (nf_from d0))]; exact burn_w (show okD (fromR d0) from (show okR d0 by assumption)))
            have hfa14 := (wait_len (show okD (fromR d0) from (show okR d0 by assumption)))
            refine VO.as ?_
            refine VO.k7 0 1 2 6 7 11 30 ?_
            refine VC.seq ?_
            refine VC.rs ?_
            refine VO.mv ?_
            refine VO.y rfl (.neq rfl rfl) ?_
            refine VO.keep [108, 0] [(108, m11), (0, mout (wm W) (m0))] (by kernel_rfl) ?_
            refine VO.k8 0 1 2 6 7 11 30 34 ?_
            refine VC.cond rfl (fun hc15 => ?_) (fun hc15 => ?_)
            · -- FFFFFT
              refine VC.rs ?_
              refine VO.mv ?_
              refine VO.as ?_
              refine VO.k8 0 1 2 6 7 11 30 34 ?_
              refine VC.ret ?_
              refine outR ?_
              refine ⟨_, _, res_run (rs := [.tmp 6]) rfl (.tmp rfl .nil), fun W_ hI => out_of (l := [m11]) hI [108] rfl rfl (mle_refl _) (fun hS_ => ?_)⟩
              dsimp only [packV]
              have hm0_ : (toR (dCut (fromR d0) d1 d2).1 d0.2.2.2.2.2.1 : Dref05Disk) = toR (burnD (fromR d0)).1 d0.2.2.2.2.2.1 := by first | rfl | (exact fin1_rCut_ok)
              refine ⟨?_, ?_⟩
              rotate_left
              · rw [hm0_]; exact (Ow.up w11_0 (hS_.1 _ (.head _)))
              all_goals (first | rfl | (exact fin0_rCut_ok))
            · -- FFFFFF
              refine VC.skip ?_
              refine outN ?_
              refine VC.rs ?_
              refine VO.mv ?_
              refine VO.mv ?_
              refine VO.y rfl (.nilp rfl) ?_
              refine VO.y rfl (.fa rfl tst68 rfl) ?_
              obtain ⟨q16_E, q16_A1, q16_c1, q16_A2, q16_c2, q16_A3, q16_c3, q16_A4, q16_c4, q16_A5, q16_c5, q16_n1, q16_n2, q16_n3, q16_n4, q16_n5, _, q16_S, q16_1, q16_2, q16_3, q16_4, q16_5, q16_8, q16_9⟩ := openP_ref05Disk (x0 := (toR (burnD (fromR d0)).1 d0.2.2.2.2.2.1).1) (x1 := ((toR (burnD (fromR d0)).1 d0.2.2.2.2.2.1).2.1).1) (x2 := ((toR (burnD (fromR d0)).1 d0.2.2.2.2.2.1).2.1).2.1) (x3 := ((toR (burnD (fromR d0)).1 d0.2.2.2.2.2.1).2.1).2.2.1) (x4 := ((toR (burnD (fromR d0)).1 d0.2.2.2.2.2.1).2.1).2.2.2) (x5 := (toR (burnD (fromR d0)).1 d0.2.2.2.2.2.1).2.2.1) (x6 := (toR (burnD (fromR d0)).1 d0.2.2.2.2.2.1).2.2.2.1) (x7 := (toR (burnD (fromR d0)).1 d0.2.2.2.2.2.1).2.2.2.2.1) (x8 := (toR (burnD (fromR d0)).1 d0.2.2.2.2.2.1).2.2.2.2.2.1) (x9 := (toR (burnD (fromR d0)).1 d0.2.2.2.2.2.1).2.2.2.2.2.2) w11_0
              have q16_r1 := Rd.room (q16_1.rd (mle_refl _))
              have q16_r2 := Rd.room (q16_2.rd (mle_refl _))
              have q16_r3 := Rd.room (q16_3.rd (mle_refl _))
              have q16_r4 := Rd.room (q16_4.rd (mle_refl _))
              have q16_r5 := Rd.room (q16_5.rd (mle_refl _))
              simp only [inK] at q16_8
              simp only [inK] at q16_9
              refine VO.inv _ (fun _ h => h.parts (i := 108) rfl q16_S [122, 117, 118, 119, 120, 121]) ?_
              refine VO.y rfl (.ld1 122 rfl tk66 rfl (cellsAt_one rfl rfl)) ?_
              refine VO.mv ?_
              refine VO.mv ?_
              refine VO.y rfl (.bst (cs := [Value.int .i64 (d1), Value.bool true, Value.int .i64 (d2), Value.slice none (0) (0)]) rfl tst70 tz70 rfl) ?_
              refine VO.bsl (cs := [Value.int .i64 (d1), Value.bool true, Value.int .i64 (d2), Value.slice none (0) (0)]) 124 rfl rfl tsl66 tz70 rfl rfl (fun g23 => ?_)
              refine VO.inv ((126, mnil) :: _) (fun _ h => h.nilc 126) ?_
              refine VO.appO (e := Tref05Raw) 121 126 124 rfl rfl rfl tsl66 tz70 rfl rfl rfl rfl q16_5 (mkO_ref05Raw d1 true d2 [] (Seps.nilAt 0 (Seps.nil _)) bdk bdk (Ow.nil _ _)) Try.underlying66 (cellsAt_one rfl rfl) bdm bd (by decide) (fun v25 m25 ho25 => ?_)
              obtain ⟨A25, c25, rfl, l25, k25⟩ := ho25.slice
              simp only [maxLen] at k25
              refine VO.y rfl (.nilp rfl) ?_
              refine VO.y rfl (.fa rfl tst68 rfl) ?_
              refine VO.store (k := 1) (c' := [Value.bool ((toR (burnD (fromR d0)).1 d0.2.2.2.2.2.1).1), Value.slice q16_A1 ((((toR (burnD (fromR d0)).1 d0.2.2.2.2.2.1).2.1).1).length) (q16_c1), Value.slice q16_A2 ((((toR (burnD (fromR d0)).1 d0.2.2.2.2.2.1).2.1).2.1).length) (q16_c2), Value.slice q16_A3 ((((toR (burnD (fromR d0)).1 d0.2.2.2.2.2.1).2.1).2.2.1).length) (q16_c3), Value.slice q16_A4 ((((toR (burnD (fromR d0)).1 d0.2.2.2.2.2.1).2.1).2.2.2).length) (q16_c4), Value.slice A25 ((((toR (burnD (fromR d0)).1 d0.2.2.2.2.2.1).2.2.1) ++ [(d1, true, d2, [])]).length) (c25), Value.bool ((toR (burnD (fromR d0)).1 d0.2.2.2.2.2.1).2.2.2.1), Value.bool ((toR (burnD (fromR d0)).1 d0.2.2.2.2.2.1).2.2.2.2.1), Value.int .i64 ((toR (burnD (fromR d0)).1 d0.2.2.2.2.2.1).2.2.2.2.2.1), Value.int .i64 ((toR (burnD (fromR d0)).1 d0.2.2.2.2.2.1).2.2.2.2.2.2)]) 122 rfl rfl (.inr ⟨tk66, rfl⟩) rfl rfl rfl rfl rfl ?_
              refine VO.gather (l := [mone g0 (.cells [Value.bool ((toR (burnD (fromR d0)).1 d0.2.2.2.2.2.1).1), Value.slice q16_A1 ((((toR (burnD (fromR d0)).1 d0.2.2.2.2.2.1).2.1).1).length) (q16_c1), Value.slice q16_A2 ((((toR (burnD (fromR d0)).1 d0.2.2.2.2.2.1).2.1).2.1).length) (q16_c2), Value.slice q16_A3 ((((toR (burnD (fromR d0)).1 d0.2.2.2.2.2.1).2.1).2.2.1).length) (q16_c3), Value.slice q16_A4 ((((toR (burnD (fromR d0)).1 d0.2.2.2.2.2.1).2.1).2.2.2).length) (q16_c4), Value.slice A25 ((((toR (burnD (fromR d0)).1 d0.2.2.2.2.2.1).2.2.1) ++ [(d1, true, d2, [])]).length) (c25), Value.bool ((toR (burnD (fromR d0)).1 d0.2.2.2.2.2.1).2.2.2.1), Value.bool ((toR (burnD (fromR d0)).1 d0.2.2.2.2.2.1).2.2.2.2.1), Value.int .i64 ((toR (burnD (fromR d0)).1 d0.2.2.2.2.2.1).2.2.2.2.2.1), Value.int .i64 ((toR (burnD (fromR d0)).1 d0.2.2.2.2.2.1).2.2.2.2.2.2)].toArray q16_E (0, 0)), q16_n1, q16_n2, q16_n3, q16_n4, m25]) 127 [122, 117, 118, 119, 120, 121] rfl (fun hg27 => ?_)
              have ho27 : Ow (.ptr Tref05Disk) (muns [mone g0 (.cells [Value.bool ((toR (burnD (fromR d0)).1 d0.2.2.2.2.2.1).1), Value.slice q16_A1 ((((toR (burnD (fromR d0)).1 d0.2.2.2.2.2.1).2.1).1).length) (q16_c1), Value.slice q16_A2 ((((toR (burnD (fromR d0)).1 d0.2.2.2.2.2.1).2.1).2.1).length) (q16_c2), Value.slice q16_A3 ((((toR (burnD (fromR d0)).1 d0.2.2.2.2.2.1).2.1).2.2.1).length) (q16_c3), Value.slice q16_A4 ((((toR (burnD (fromR d0)).1 d0.2.2.2.2.2.1).2.1).2.2.2).length) (q16_c4), Value.slice A25 ((((toR (burnD (fromR d0)).1 d0.2.2.2.2.2.1).2.2.1) ++ [(d1, true, d2, [])]).length) (c25), Value.bool ((toR (burnD (fromR d0)).1 d0.2.2.2.2.2.1).2.2.2.1), Value.bool ((toR (burnD (fromR d0)).1 d0.2.2.2.2.2.1).2.2.2.2.1), Value.int .i64 ((toR (burnD (fromR d0)).1 d0.2.2.2.2.2.1).2.2.2.2.2.1), Value.int .i64 ((toR (burnD (fromR d0)).1 d0.2.2.2.2.2.1).2.2.2.2.2.2)].toArray q16_E (0, 0)), q16_n1, q16_n2, q16_n3, q16_n4, m25]) [.pointer (some ⟨g0, 0, none⟩)] (g0, ((toR (burnD (fromR d0)).1 d0.2.2.2.2.2.1).1, ((toR (burnD (fromR d0)).1 d0.2.2.2.2.2.1).2.1), ((toR (burnD (fromR d0)).1 d0.2.2.2.2.2.1).2.2.1) ++ [(d1, true, d2, [])], (toR (burnD (fromR d0)).1 d0.2.2.2.2.2.1).2.2.2)) := (mkP_ref05Disk ((toR (burnD (fromR d0)).1 d0.2.2.2.2.2.1).1) (((toR (burnD (fromR d0)).1 d0.2.2.2.2.2.1).2.1).1) (((toR (burnD (fromR d0)).1 d0.2.2.2.2.2.1).2.1).2.1) (((toR (burnD (fromR d0)).1 d0.2.2.2.2.2.1).2.1).2.2.1) (((toR (burnD (fromR d0)).1 d0.2.2.2.2.2.1).2.1).2.2.2) (((toR (burnD (fromR d0)).1 d0.2.2.2.2.2.1).2.2.1) ++ [(d1, true, d2, [])]) ((toR (burnD (fromR d0)).1 d0.2.2.2.2.2.1).2.2.2.1) ((toR (burnD (fromR d0)).1 d0.2.2.2.2.2.1).2.2.2.2.1) ((toR (burnD (fromR d0)).1 d0.2.2.2.2.2.1).2.2.2.2.2.1) ((toR (burnD (fromR d0)).1 d0.2.2.2.2.2.1).2.2.2.2.2.2) hg27 (OwnL.ow (Ow.ownl q16_1 rfl mnil) rfl) (OwnL.ow (Ow.ownl q16_2 rfl mnil) rfl) (OwnL.ow (Ow.ownl q16_3 rfl mnil) rfl) (OwnL.ow (Ow.ownl q16_4 rfl mnil) rfl) ho25 bdk bdk)
              refine VO.k8 0 1 2 6 7 11 30 34 ?_
              refine VC.rs ?_
              refine VO.as ?_
              refine VO.k8 0 1 2 6 7 11 30 34 ?_
              refine VC.ret ?_
              refine ⟨_, _, res_run (rs := [.tmp 6]) rfl (.tmp rfl .nil), fun W_ hI => out_of (l := [muns [mone g0 (.cells [Value.bool ((toR (burnD (fromR d0)).1 d0.2.2.2.2.2.1).1), Value.slice q16_A1 ((((toR (burnD (fromR d0)).1 d0.2.2.2.2.2.1).2.1).1).length) (q16_c1), Value.slice q16_A2 ((((toR (burnD (fromR d0)).1 d0.2.2.2.2.2.1).2.1).2.1).length) (q16_c2), Value.slice q16_A3 ((((toR (burnD (fromR d0)).1 d0.2.2.2.2.2.1).2.1).2.2.1).length) (q16_c3), Value.slice q16_A4 ((((toR (burnD (fromR d0)).1 d0.2.2.2.2.2.1).2.1).2.2.2).length) (q16_c4), Value.slice A25 ((((toR (burnD (fromR d0)).1 d0.2.2.2.2.2.1).2.2.1) ++ [(d1, true, d2, [])]).length) (c25), Value.bool ((toR (burnD (fromR d0)).1 d0.2.2.2.2.2.1).2.2.2.1), Value.bool ((toR (burnD (fromR d0)).1 d0.2.2.2.2.2.1).2.2.2.2.1), Value.int .i64 ((toR (burnD (fromR d0)).1 d0.2.2.2.2.2.1).2.2.2.2.2.1), Value.int .i64 ((toR (burnD (fromR d0)).1 d0.2.2.2.2.2.1).2.2.2.2.2.2)].toArray q16_E (0, 0)), q16_n1, q16_n2, q16_n3, q16_n4, m25]]) hI [127] rfl rfl (mle_refl _) (fun hS_ => ?_)⟩
              dsimp only [packV]
              have hm0_ : (toR (dCut (fromR d0) d1 d2).1 d0.2.2.2.2.2.1 : Dref05Disk) = ((toR (burnD (fromR d0)).1 d0.2.2.2.2.2.1).1, ((toR (burnD (fromR d0)).1 d0.2.2.2.2.2.1).2.1), ((toR (burnD (fromR d0)).1 d0.2.2.2.2.2.1).2.2.1) ++ [(d1, true, d2, [])], (toR (burnD (fromR d0)).1 d0.2.2.2.2.2.1).2.2.2) := by first | rfl | (exact fin1_rCut_ok)
              refine ⟨?_, ?_⟩
              rotate_left
              · rw [hm0_]; exact (Ow.up ho27 (hS_.1 _ (.head _)))
              all_goals (first | rfl | (exact fin0_rCut_ok))
theorem rSync_ok (W : World) {m0 : Mem} (hm : mle (m0) (wm W)) {g0 : Nat} {d0 : Dref05Disk} (h0 : Ow (.ptr Tref05Disk) m0 [.pointer (some ⟨g0, 0, none⟩)] (g0, d0)) (e0 : okR d0) (e1 : wD (fromR d0) ≤ 1000000000000) : CallR Try.prog 44 [.pointer (some ⟨g0, 0, none⟩)] W (m0) (fun v m' => v = .int .i64 ((dSync (fromR d0)).2) ∧ Ow (.ptr Tref05Disk) m' [.pointer (some ⟨g0, 0, none⟩)] (g0, toR (dSync (fromR d0)).1 d0.2.2.2.2.2.1)) := by
  refine CallR.ofB (n := 24) hm Try.func44 rfl rfl rfl ?_
  refine VC.rs ?_
  refine VO.as ?_
  refine VO.k2 0 2 ?_
  refine VC.rs ?_
  refine VO.mv ?_
  refine VO.call 1 rfl fnOk54 rfl rfl (fun W hW => rAsked_ok W (hW.at (i := 1) rfl) h0) (fun v1 m1 hv1 => ?_)
  obtain ⟨rfl, w1_0⟩ := hv1
  refine VO.as ?_
  refine VO.k3 0 2 3 ?_
  refine VC.seq ?_
  refine VC.rs ?_
  refine VO.mv ?_
  refine VO.y rfl (.neq rfl rfl) ?_
  refine VO.keep [1, 0] [(1, m1), (0, mout (wm W) (m0))] (by kernel_rfl) ?_
  refine VO.k4 0 2 3 7 ?_
  refine VC.cond rfl (fun hc2 => ?_) (fun hc2 => ?_)
  · -- T
    refine VC.rs ?_
    refine VO.mv ?_
    refine VO.as ?_
    refine VO.k4 0 2 3 7 ?_
    refine VC.ret ?_
    refine outR ?_
    refine ⟨_, _, res_run (rs := [.tmp 2]) rfl (.tmp rfl .nil), fun W_ hI => out_of (l := [m1]) hI [1] rfl rfl (mle_refl _) (fun hS_ => ?_)⟩
    dsimp only [packV]
    have hm0_ : (toR (dSync (fromR d0)).1 d0.2.2.2.2.2.1 : Dref05Disk) = d0 := by first | rfl | (first | (rw [sync_bad (by assumption), to_from]; done) | (rw [sync_go (by assumption) (Decidable.not_not.2 (burn_yes (by assumption)))]; exact (rsync_next (burn_ok e0) (nf_burn (nf_from d0)) (by omega)).symm) | (rw [sync_off (by assumption) (burn_not (by assumption))]))
    refine ⟨?_, ?_⟩
    rotate_left
    · rw [hm0_]; exact (Ow.up w1_0 (hS_.1 _ (.head _)))
    all_goals (first | rfl | (first | (rw [sync_bad (by assumption)] <;> rfl) | (rw [sync_go (by assumption) (Decidable.not_not.2 (burn_yes (by assumption)))]; done) | (rw [sync_off (by assumption) (burn_not (by assumption))]; exact congrArg (Value.int _) (if_neg (burn_not (by assumption)))) | (rw [sync_off (by assumption) (burn_not (by assumption))]; rfl)))
  · -- F
    refine VC.skip ?_
    refine outN ?_
    refine VC.rs ?_
    refine VO.mv ?_
    refine VO.call 1 rfl fnOk55 rfl rfl (fun W hW => rStep_ok W (hW.at (i := 1) rfl) w1_0 (by assumption) bd) (fun v3 m3 hv3 => ?_)
    obtain ⟨rfl, w3_0⟩ := hv3
    have hfa4 := (show okR (toR ((burnD (fromR d0)).1) d0.2.2.2.2.2.1) from okR_to (burn_ok (show okD (fromR d0) from (show okR d0 by assumption))) (nf_burn (nf_from d0)))
    have hfa5 := (show wD (fromR (toR ((burnD (fromR d0)).1) d0.2.2.2.2.2.1)) ≤ _ by rw [from_to (burn_ok (show okD (fromR d0) from (show okR d0 by assumption))) (nf_burn (nf_from d0))]; exact burn_w (show okD (fromR d0) from (show okR d0 by assumption)))
    have hfa6 := (wait_len (show okD (fromR d0) from (show okR d0 by assumption)))
    refine VO.as ?_
    refine VO.k4 0 2 3 7 ?_
    refine VC.seq ?_
    refine VC.rs ?_
    refine VO.mv ?_
    refine VO.y rfl (.neq rfl rfl) ?_
    refine VO.k5 0 2 3 7 12 ?_
    refine VC.cond rfl (fun hc7 => ?_) (fun hc7 => ?_)
    · -- FT
      refine VC.rs ?_
      refine VO.mv ?_
      refine VO.as ?_
      refine VO.keep [1, 0] [(1, m3), (0, mout (wm W) (m0))] (by kernel_rfl) ?_
      refine VO.k5 0 2 3 7 12 ?_
      refine VC.ret ?_
      refine outR ?_
      refine ⟨_, _, res_run (rs := [.tmp 2]) rfl (.tmp rfl .nil), fun W_ hI => out_of (l := [m3]) hI [1] rfl rfl (mle_refl _) (fun hS_ => ?_)⟩
      dsimp only [packV]
      have hm0_ : (toR (dSync (fromR d0)).1 d0.2.2.2.2.2.1 : Dref05Disk) = toR (burnD (fromR d0)).1 d0.2.2.2.2.2.1 := by first | rfl | (first | (rw [sync_bad (by assumption), to_from]; done) | (rw [sync_go (by assumption) (Decidable.not_not.2 (burn_yes (by assumption)))]; exact (rsync_next (burn_ok e0) (nf_burn (nf_from d0)) (by omega)).symm) | (rw [sync_off (by assumption) (burn_not (by assumption))]))
      refine ⟨?_, ?_⟩
      rotate_left
      · rw [hm0_]; exact (Ow.up w3_0 (hS_.1 _ (.head _)))
      all_goals (first | rfl | (first | (rw [sync_bad (by assumption)] <;> rfl) | (rw [sync_go (by assumption) (Decidable.not_not.2 (burn_yes (by assumption)))]; done) | (rw [sync_off (by assumption) (burn_not (by assumption))]; exact congrArg (Value.int _) (if_neg (burn_not (by assumption)))) | (rw [sync_off (by assumption) (burn_not (by assumption))]; rfl)))
    · -- FF
      refine VC.skip ?_
      refine outN ?_
      refine VC.rs ?_
      refine VO.mv ?_
      refine VO.mv ?_
      refine VO.y rfl (.nilp rfl) ?_
      refine VO.y rfl (.fa rfl tst68 rfl) ?_
      obtain ⟨q8_E, q8_A1, q8_c1, q8_A2, q8_c2, q8_A3, q8_c3, q8_A4, q8_c4, q8_A5, q8_c5, q8_n1, q8_n2, q8_n3, q8_n4, q8_n5, _, q8_S, q8_1, q8_2, q8_3, q8_4, q8_5, q8_8, q8_9⟩ := openP_ref05Disk (x0 := (toR (burnD (fromR d0)).1 d0.2.2.2.2.2.1).1) (x1 := ((toR (burnD (fromR d0)).1 d0.2.2.2.2.2.1).2.1).1) (x2 := ((toR (burnD (fromR d0)).1 d0.2.2.2.2.2.1).2.1).2.1) (x3 := ((toR (burnD (fromR d0)).1 d0.2.2.2.2.2.1).2.1).2.2.1) (x4 := ((toR (burnD (fromR d0)).1 d0.2.2.2.2.2.1).2.1).2.2.2) (x5 := (toR (burnD (fromR d0)).1 d0.2.2.2.2.2.1).2.2.1) (x6 := (toR (burnD (fromR d0)).1 d0.2.2.2.2.2.1).2.2.2.1) (x7 := (toR (burnD (fromR d0)).1 d0.2.2.2.2.2.1).2.2.2.2.1) (x8 := (toR (burnD (fromR d0)).1 d0.2.2.2.2.2.1).2.2.2.2.2.1) (x9 := (toR (burnD (fromR d0)).1 d0.2.2.2.2.2.1).2.2.2.2.2.2) w3_0
      have q8_r1 := Rd.room (q8_1.rd (mle_refl _))
      have q8_r2 := Rd.room (q8_2.rd (mle_refl _))
      have q8_r3 := Rd.room (q8_3.rd (mle_refl _))
      have q8_r4 := Rd.room (q8_4.rd (mle_refl _))
      have q8_r5 := Rd.room (q8_5.rd (mle_refl _))
      simp only [inK] at q8_8
      simp only [inK] at q8_9
      refine VO.inv _ (fun _ h => h.parts (i := 1) rfl q8_S [114, 109, 110, 111, 112, 113]) ?_
      refine VO.y rfl (.ld1 114 rfl tk66 rfl (cellsAt_one rfl rfl)) ?_
      refine VO.y rfl (.lenS rfl tsl66) ?_
      refine VO.gather (l := [mone g0 (.cells [Value.bool ((toR (burnD (fromR d0)).1 d0.2.2.2.2.2.1).1), Value.slice q8_A1 ((((toR (burnD (fromR d0)).1 d0.2.2.2.2.2.1).2.1).1).length) (q8_c1), Value.slice q8_A2 ((((toR (burnD (fromR d0)).1 d0.2.2.2.2.2.1).2.1).2.1).length) (q8_c2), Value.slice q8_A3 ((((toR (burnD (fromR d0)).1 d0.2.2.2.2.2.1).2.1).2.2.1).length) (q8_c3), Value.slice q8_A4 ((((toR (burnD (fromR d0)).1 d0.2.2.2.2.2.1).2.1).2.2.2).length) (q8_c4), Value.slice q8_A5 (((toR (burnD (fromR d0)).1 d0.2.2.2.2.2.1).2.2.1).length) (q8_c5), Value.bool ((toR (burnD (fromR d0)).1 d0.2.2.2.2.2.1).2.2.2.1), Value.bool ((toR (burnD (fromR d0)).1 d0.2.2.2.2.2.1).2.2.2.2.1), Value.int .i64 ((toR (burnD (fromR d0)).1 d0.2.2.2.2.2.1).2.2.2.2.2.1), Value.int .i64 ((toR (burnD (fromR d0)).1 d0.2.2.2.2.2.1).2.2.2.2.2.2)].toArray q8_E (0, 0)), q8_n1, q8_n2, q8_n3, q8_n4, q8_n5]) 116 [114, 109, 110, 111, 112, 113] rfl (fun hg16 => ?_)
      have ho16 : Ow (.ptr Tref05Disk) (muns [mone g0 (.cells [Value.bool ((toR (burnD (fromR d0)).1 d0.2.2.2.2.2.1).1), Value.slice q8_A1 ((((toR (burnD (fromR d0)).1 d0.2.2.2.2.2.1).2.1).1).length) (q8_c1), Value.slice q8_A2 ((((toR (burnD (fromR d0)).1 d0.2.2.2.2.2.1).2.1).2.1).length) (q8_c2), Value.slice q8_A3 ((((toR (burnD (fromR d0)).1 d0.2.2.2.2.2.1).2.1).2.2.1).length) (q8_c3), Value.slice q8_A4 ((((toR (burnD (fromR d0)).1 d0.2.2.2.2.2.1).2.1).2.2.2).length) (q8_c4), Value.slice q8_A5 (((toR (burnD (fromR d0)).1 d0.2.2.2.2.2.1).2.2.1).length) (q8_c5), Value.bool ((toR (burnD (fromR d0)).1 d0.2.2.2.2.2.1).2.2.2.1), Value.bool ((toR (burnD (fromR d0)).1 d0.2.2.2.2.2.1).2.2.2.2.1), Value.int .i64 ((toR (burnD (fromR d0)).1 d0.2.2.2.2.2.1).2.2.2.2.2.1), Value.int .i64 ((toR (burnD (fromR d0)).1 d0.2.2.2.2.2.1).2.2.2.2.2.2)].toArray q8_E (0, 0)), q8_n1, q8_n2, q8_n3, q8_n4, q8_n5]) [.pointer (some ⟨g0, 0, none⟩)] (g0, (toR (burnD (fromR d0)).1 d0.2.2.2.2.2.1)) := (show Ow (.ptr Tref05Disk) _ _ (_, (toR (burnD (fromR d0)).1 d0.2.2.2.2.2.1)) from (mkP_ref05Disk ((toR (burnD (fromR d0)).1 d0.2.2.2.2.2.1).1) (((toR (burnD (fromR d0)).1 d0.2.2.2.2.2.1).2.1).1) (((toR (burnD (fromR d0)).1 d0.2.2.2.2.2.1).2.1).2.1) (((toR (burnD (fromR d0)).1 d0.2.2.2.2.2.1).2.1).2.2.1) (((toR (burnD (fromR d0)).1 d0.2.2.2.2.2.1).2.1).2.2.2) ((toR (burnD (fromR d0)).1 d0.2.2.2.2.2.1).2.2.1) ((toR (burnD (fromR d0)).1 d0.2.2.2.2.2.1).2.2.2.1) ((toR (burnD (fromR d0)).1 d0.2.2.2.2.2.1).2.2.2.2.1) ((toR (burnD (fromR d0)).1 d0.2.2.2.2.2.1).2.2.2.2.2.1) ((toR (burnD (fromR d0)).1 d0.2.2.2.2.2.1).2.2.2.2.2.2) hg16 (OwnL.ow (Ow.ownl q8_1 rfl mnil) rfl) (OwnL.ow (Ow.ownl q8_2 rfl mnil) rfl) (OwnL.ow (Ow.ownl q8_3 rfl mnil) rfl) (OwnL.ow (Ow.ownl q8_4 rfl mnil) rfl) q8_5 bdk bdk))
      refine VO.call 116 rfl fnOk57 rfl rfl (fun W hW => rKeep_ok W (hW.at (i := 116) rfl) ho16 ((((toR (burnD (fromR d0)).1 d0.2.2.2.2.2.1).2.2.1).length : Nat) : Int) bdk (by assumption) bd bd) (fun v15 m15 hv15 => ?_)
      obtain ⟨rfl, w15_0⟩ := hv15
      refine VO.keep [116, 0] [(116, m15), (0, mout (wm W) (m0))] (by kernel_rfl) ?_
      refine VO.k5 0 2 3 7 12 ?_
      refine VC.rs ?_
      refine VO.mv ?_
      refine VO.y rfl (.nilp rfl) ?_
      refine VO.y rfl (.fa rfl tst68 rfl) ?_
      obtain ⟨q17_E, q17_A1, q17_c1, q17_A2, q17_c2, q17_A3, q17_c3, q17_A4, q17_c4, q17_A5, q17_c5, q17_n1, q17_n2, q17_n3, q17_n4, q17_n5, _, q17_S, q17_1, q17_2, q17_3, q17_4, q17_5, q17_8, q17_9⟩ := openP_ref05Disk (x0 := (toR (keepR (fromR (toR (burnD (fromR d0)).1 d0.2.2.2.2.2.1)) ((((toR (burnD (fromR d0)).1 d0.2.2.2.2.2.1).2.2.1).length : Nat) : Int).toNat) (toR (burnD (fromR d0)).1 d0.2.2.2.2.2.1).2.2.2.2.2.1).1) (x1 := ((toR (keepR (fromR (toR (burnD (fromR d0)).1 d0.2.2.2.2.2.1)) ((((toR (burnD (fromR d0)).1 d0.2.2.2.2.2.1).2.2.1).length : Nat) : Int).toNat) (toR (burnD (fromR d0)).1 d0.2.2.2.2.2.1).2.2.2.2.2.1).2.1).1) (x2 := ((toR (keepR (fromR (toR (burnD (fromR d0)).1 d0.2.2.2.2.2.1)) ((((toR (burnD (fromR d0)).1 d0.2.2.2.2.2.1).2.2.1).length : Nat) : Int).toNat) (toR (burnD (fromR d0)).1 d0.2.2.2.2.2.1).2.2.2.2.2.1).2.1).2.1) (x3 := ((toR (keepR (fromR (toR (burnD (fromR d0)).1 d0.2.2.2.2.2.1)) ((((toR (burnD (fromR d0)).1 d0.2.2.2.2.2.1).2.2.1).length : Nat) : Int).toNat) (toR (burnD (fromR d0)).1 d0.2.2.2.2.2.1).2.2.2.2.2.1).2.1).2.2.1) (x4 := ((toR (keepR (fromR (toR (burnD (fromR d0)).1 d0.2.2.2.2.2.1)) ((((toR (burnD (fromR d0)).1 d0.2.2.2.2.2.1).2.2.1).length : Nat) : Int).toNat) (toR (burnD (fromR d0)).1 d0.2.2.2.2.2.1).2.2.2.2.2.1).2.1).2.2.2) (x5 := (toR (keepR (fromR (toR (burnD (fromR d0)).1 d0.2.2.2.2.2.1)) ((((toR (burnD (fromR d0)).1 d0.2.2.2.2.2.1).2.2.1).length : Nat) : Int).toNat) (toR (burnD (fromR d0)).1 d0.2.2.2.2.2.1).2.2.2.2.2.1).2.2.1) (x6 := (toR (keepR (fromR (toR (burnD (fromR d0)).1 d0.2.2.2.2.2.1)) ((((toR (burnD (fromR d0)).1 d0.2.2.2.2.2.1).2.2.1).length : Nat) : Int).toNat) (toR (burnD (fromR d0)).1 d0.2.2.2.2.2.1).2.2.2.2.2.1).2.2.2.1) (x7 := (toR (keepR (fromR (toR (burnD (fromR d0)).1 d0.2.2.2.2.2.1)) ((((toR (burnD (fromR d0)).1 d0.2.2.2.2.2.1).2.2.1).length : Nat) : Int).toNat) (toR (burnD (fromR d0)).1 d0.2.2.2.2.2.1).2.2.2.2.2.1).2.2.2.2.1) (x8 := (toR (keepR (fromR (toR (burnD (fromR d0)).1 d0.2.2.2.2.2.1)) ((((toR (burnD (fromR d0)).1 d0.2.2.2.2.2.1).2.2.1).length : Nat) : Int).toNat) (toR (burnD (fromR d0)).1 d0.2.2.2.2.2.1).2.2.2.2.2.1).2.2.2.2.2.1) (x9 := (toR (keepR (fromR (toR (burnD (fromR d0)).1 d0.2.2.2.2.2.1)) ((((toR (burnD (fromR d0)).1 d0.2.2.2.2.2.1).2.2.1).length : Nat) : Int).toNat) (toR (burnD (fromR d0)).1 d0.2.2.2.2.2.1).2.2.2.2.2.1).2.2.2.2.2.2) w15_0
      have q17_r1 := Rd.room (q17_1.rd (mle_refl _))
      have q17_r2 := Rd.room (q17_2.rd (mle_refl _))
      have q17_r3 := Rd.room (q17_3.rd (mle_refl _))
      have q17_r4 := Rd.room (q17_4.rd (mle_refl _))
      have q17_r5 := Rd.room (q17_5.rd (mle_refl _))
      simp only [inK] at q17_8
      simp only [inK] at q17_9
      refine VO.inv _ (fun _ h => h.parts (i := 116) rfl q17_S [123, 118, 119, 120, 121, 122]) ?_
      refine VO.store (k := 1) (c' := [Value.bool ((toR (keepR (fromR (toR (burnD (fromR d0)).1 d0.2.2.2.2.2.1)) ((((toR (burnD (fromR d0)).1 d0.2.2.2.2.2.1).2.2.1).length : Nat) : Int).toNat) (toR (burnD (fromR d0)).1 d0.2.2.2.2.2.1).2.2.2.2.2.1).1), Value.slice q17_A1 ((((toR (keepR (fromR (toR (burnD (fromR d0)).1 d0.2.2.2.2.2.1)) ((((toR (burnD (fromR d0)).1 d0.2.2.2.2.2.1).2.2.1).length : Nat) : Int).toNat) (toR (burnD (fromR d0)).1 d0.2.2.2.2.2.1).2.2.2.2.2.1).2.1).1).length) (q17_c1), Value.slice q17_A2 ((((toR (keepR (fromR (toR (burnD (fromR d0)).1 d0.2.2.2.2.2.1)) ((((toR (burnD (fromR d0)).1 d0.2.2.2.2.2.1).2.2.1).length : Nat) : Int).toNat) (toR (burnD (fromR d0)).1 d0.2.2.2.2.2.1).2.2.2.2.2.1).2.1).2.1).length) (q17_c2), Value.slice q17_A3 ((((toR (keepR (fromR (toR (burnD (fromR d0)).1 d0.2.2.2.2.2.1)) ((((toR (burnD (fromR d0)).1 d0.2.2.2.2.2.1).2.2.1).length : Nat) : Int).toNat) (toR (burnD (fromR d0)).1 d0.2.2.2.2.2.1).2.2.2.2.2.1).2.1).2.2.1).length) (q17_c3), Value.slice q17_A4 ((((toR (keepR (fromR (toR (burnD (fromR d0)).1 d0.2.2.2.2.2.1)) ((((toR (burnD (fromR d0)).1 d0.2.2.2.2.2.1).2.2.1).length : Nat) : Int).toNat) (toR (burnD (fromR d0)).1 d0.2.2.2.2.2.1).2.2.2.2.2.1).2.1).2.2.2).length) (q17_c4), Value.slice none (0) (0), Value.bool ((toR (keepR (fromR (toR (burnD (fromR d0)).1 d0.2.2.2.2.2.1)) ((((toR (burnD (fromR d0)).1 d0.2.2.2.2.2.1).2.2.1).length : Nat) : Int).toNat) (toR (burnD (fromR d0)).1 d0.2.2.2.2.2.1).2.2.2.2.2.1).2.2.2.1), Value.bool ((toR (keepR (fromR (toR (burnD (fromR d0)).1 d0.2.2.2.2.2.1)) ((((toR (burnD (fromR d0)).1 d0.2.2.2.2.2.1).2.2.1).length : Nat) : Int).toNat) (toR (burnD (fromR d0)).1 d0.2.2.2.2.2.1).2.2.2.2.2.1).2.2.2.2.1), Value.int .i64 ((toR (keepR (fromR (toR (burnD (fromR d0)).1 d0.2.2.2.2.2.1)) ((((toR (burnD (fromR d0)).1 d0.2.2.2.2.2.1).2.2.1).length : Nat) : Int).toNat) (toR (burnD (fromR d0)).1 d0.2.2.2.2.2.1).2.2.2.2.2.1).2.2.2.2.2.1), Value.int .i64 ((toR (keepR (fromR (toR (burnD (fromR d0)).1 d0.2.2.2.2.2.1)) ((((toR (burnD (fromR d0)).1 d0.2.2.2.2.2.1).2.2.1).length : Nat) : Int).toNat) (toR (burnD (fromR d0)).1 d0.2.2.2.2.2.1).2.2.2.2.2.1).2.2.2.2.2.2)]) 123 rfl rfl (.inr ⟨tk66, rfl⟩) rfl rfl rfl rfl rfl ?_
      refine VO.gather (l := [mone g0 (.cells [Value.bool ((toR (keepR (fromR (toR (burnD (fromR d0)).1 d0.2.2.2.2.2.1)) ((((toR (burnD (fromR d0)).1 d0.2.2.2.2.2.1).2.2.1).length : Nat) : Int).toNat) (toR (burnD (fromR d0)).1 d0.2.2.2.2.2.1).2.2.2.2.2.1).1), Value.slice q17_A1 ((((toR (keepR (fromR (toR (burnD (fromR d0)).1 d0.2.2.2.2.2.1)) ((((toR (burnD (fromR d0)).1 d0.2.2.2.2.2.1).2.2.1).length : Nat) : Int).toNat) (toR (burnD (fromR d0)).1 d0.2.2.2.2.2.1).2.2.2.2.2.1).2.1).1).length) (q17_c1), Value.slice q17_A2 ((((toR (keepR (fromR (toR (burnD (fromR d0)).1 d0.2.2.2.2.2.1)) ((((toR (burnD (fromR d0)).1 d0.2.2.2.2.2.1).2.2.1).length : Nat) : Int).toNat) (toR (burnD (fromR d0)).1 d0.2.2.2.2.2.1).2.2.2.2.2.1).2.1).2.1).length) (q17_c2), Value.slice q17_A3 ((((toR (keepR (fromR (toR (burnD (fromR d0)).1 d0.2.2.2.2.2.1)) ((((toR (burnD (fromR d0)).1 d0.2.2.2.2.2.1).2.2.1).length : Nat) : Int).toNat) (toR (burnD (fromR d0)).1 d0.2.2.2.2.2.1).2.2.2.2.2.1).2.1).2.2.1).length) (q17_c3), Value.slice q17_A4 ((((toR (keepR (fromR (toR (burnD (fromR d0)).1 d0.2.2.2.2.2.1)) ((((toR (burnD (fromR d0)).1 d0.2.2.2.2.2.1).2.2.1).length : Nat) : Int).toNat) (toR (burnD (fromR d0)).1 d0.2.2.2.2.2.1).2.2.2.2.2.1).2.1).2.2.2).length) (q17_c4), Value.slice none (0) (0), Value.bool ((toR (keepR (fromR (toR (burnD (fromR d0)).1 d0.2.2.2.2.2.1)) ((((toR (burnD (fromR d0)).1 d0.2.2.2.2.2.1).2.2.1).length : Nat) : Int).toNat) (toR (burnD (fromR d0)).1 d0.2.2.2.2.2.1).2.2.2.2.2.1).2.2.2.1), Value.bool ((toR (keepR (fromR (toR (burnD (fromR d0)).1 d0.2.2.2.2.2.1)) ((((toR (burnD (fromR d0)).1 d0.2.2.2.2.2.1).2.2.1).length : Nat) : Int).toNat) (toR (burnD (fromR d0)).1 d0.2.2.2.2.2.1).2.2.2.2.2.1).2.2.2.2.1), Value.int .i64 ((toR (keepR (fromR (toR (burnD (fromR d0)).1 d0.2.2.2.2.2.1)) ((((toR (burnD (fromR d0)).1 d0.2.2.2.2.2.1).2.2.1).length : Nat) : Int).toNat) (toR (burnD (fromR d0)).1 d0.2.2.2.2.2.1).2.2.2.2.2.1).2.2.2.2.2.1), Value.int .i64 ((toR (keepR (fromR (toR (burnD (fromR d0)).1 d0.2.2.2.2.2.1)) ((((toR (burnD (fromR d0)).1 d0.2.2.2.2.2.1).2.2.1).length : Nat) : Int).toNat) (toR (burnD (fromR d0)).1 d0.2.2.2.2.2.1).2.2.2.2.2.1).2.2.2.2.2.2)].toArray q17_E (0, 0)), q17_n1, q17_n2, q17_n3, q17_n4]) 124 [123, 118, 119, 120, 121] rfl (fun hg24 => ?_)
      have ho24 : Ow (.ptr Tref05Disk) (muns [mone g0 (.cells [Value.bool ((toR (keepR (fromR (toR (burnD (fromR d0)).1 d0.2.2.2.2.2.1)) ((((toR (burnD (fromR d0)).1 d0.2.2.2.2.2.1).2.2.1).length : Nat) : Int).toNat) (toR (burnD (fromR d0)).1 d0.2.2.2.2.2.1).2.2.2.2.2.1).1), Value.slice q17_A1 ((((toR (keepR (fromR (toR (burnD (fromR d0)).1 d0.2.2.2.2.2.1)) ((((toR (burnD (fromR d0)).1 d0.2.2.2.2.2.1).2.2.1).length : Nat) : Int).toNat) (toR (burnD (fromR d0)).1 d0.2.2.2.2.2.1).2.2.2.2.2.1).2.1).1).length) (q17_c1), Value.slice q17_A2 ((((toR (keepR (fromR (toR (burnD (fromR d0)).1 d0.2.2.2.2.2.1)) ((((toR (burnD (fromR d0)).1 d0.2.2.2.2.2.1).2.2.1).length : Nat) : Int).toNat) (toR (burnD (fromR d0)).1 d0.2.2.2.2.2.1).2.2.2.2.2.1).2.1).2.1).length) (q17_c2), Value.slice q17_A3 ((((toR (keepR (fromR (toR (burnD (fromR d0)).1 d0.2.2.2.2.2.1)) ((((toR (burnD (fromR d0)).1 d0.2.2.2.2.2.1).2.2.1).length : Nat) : Int).toNat) (toR (burnD (fromR d0)).1 d0.2.2.2.2.2.1).2.2.2.2.2.1).2.1).2.2.1).length) (q17_c3), Value.slice q17_A4 ((((toR (keepR (fromR (toR (burnD (fromR d0)).1 d0.2.2.2.2.2.1)) ((((toR (burnD (fromR d0)).1 d0.2.2.2.2.2.1).2.2.1).length : Nat) : Int).toNat) (toR (burnD (fromR d0)).1 d0.2.2.2.2.2.1).2.2.2.2.2.1).2.1).2.2.2).length) (q17_c4), Value.slice none (0) (0), Value.bool ((toR (keepR (fromR (toR (burnD (fromR d0)).1 d0.2.2.2.2.2.1)) ((((toR (burnD (fromR d0)).1 d0.2.2.2.2.2.1).2.2.1).length : Nat) : Int).toNat) (toR (burnD (fromR d0)).1 d0.2.2.2.2.2.1).2.2.2.2.2.1).2.2.2.1), Value.bool ((toR (keepR (fromR (toR (burnD (fromR d0)).1 d0.2.2.2.2.2.1)) ((((toR (burnD (fromR d0)).1 d0.2.2.2.2.2.1).2.2.1).length : Nat) : Int).toNat) (toR (burnD (fromR d0)).1 d0.2.2.2.2.2.1).2.2.2.2.2.1).2.2.2.2.1), Value.int .i64 ((toR (keepR (fromR (toR (burnD (fromR d0)).1 d0.2.2.2.2.2.1)) ((((toR (burnD (fromR d0)).1 d0.2.2.2.2.2.1).2.2.1).length : Nat) : Int).toNat) (toR (burnD (fromR d0)).1 d0.2.2.2.2.2.1).2.2.2.2.2.1).2.2.2.2.2.1), Value.int .i64 ((toR (keepR (fromR (toR (burnD (fromR d0)).1 d0.2.2.2.2.2.1)) ((((toR (burnD (fromR d0)).1 d0.2.2.2.2.2.1).2.2.1).length : Nat) : Int).toNat) (toR (burnD (fromR d0)).1 d0.2.2.2.2.2.1).2.2.2.2.2.1).2.2.2.2.2.2)].toArray q17_E (0, 0)), q17_n1, q17_n2, q17_n3, q17_n4]) [.pointer (some ⟨g0, 0, none⟩)] (g0, ((toR (keepR (fromR (toR (burnD (fromR d0)).1 d0.2.2.2.2.2.1)) ((((toR (burnD (fromR d0)).1 d0.2.2.2.2.2.1).2.2.1).length : Nat) : Int).toNat) (toR (burnD (fromR d0)).1 d0.2.2.2.2.2.1).2.2.2.2.2.1).1, ((toR (keepR (fromR (toR (burnD (fromR d0)).1 d0.2.2.2.2.2.1)) ((((toR (burnD (fromR d0)).1 d0.2.2.2.2.2.1).2.2.1).length : Nat) : Int).toNat) (toR (burnD (fromR d0)).1 d0.2.2.2.2.2.1).2.2.2.2.2.1).2.1), [], (toR (keepR (fromR (toR (burnD (fromR d0)).1 d0.2.2.2.2.2.1)) ((((toR (burnD (fromR d0)).1 d0.2.2.2.2.2.1).2.2.1).length : Nat) : Int).toNat) (toR (burnD (fromR d0)).1 d0.2.2.2.2.2.1).2.2.2.2.2.1).2.2.2)) := (mkP_ref05Disk ((toR (keepR (fromR (toR (burnD (fromR d0)).1 d0.2.2.2.2.2.1)) ((((toR (burnD (fromR d0)).1 d0.2.2.2.2.2.1).2.2.1).length : Nat) : Int).toNat) (toR (burnD (fromR d0)).1 d0.2.2.2.2.2.1).2.2.2.2.2.1).1) (((toR (keepR (fromR (toR (burnD (fromR d0)).1 d0.2.2.2.2.2.1)) ((((toR (burnD (fromR d0)).1 d0.2.2.2.2.2.1).2.2.1).length : Nat) : Int).toNat) (toR (burnD (fromR d0)).1 d0.2.2.2.2.2.1).2.2.2.2.2.1).2.1).1) (((toR (keepR (fromR (toR (burnD (fromR d0)).1 d0.2.2.2.2.2.1)) ((((toR (burnD (fromR d0)).1 d0.2.2.2.2.2.1).2.2.1).length : Nat) : Int).toNat) (toR (burnD (fromR d0)).1 d0.2.2.2.2.2.1).2.2.2.2.2.1).2.1).2.1) (((toR (keepR (fromR (toR (burnD (fromR d0)).1 d0.2.2.2.2.2.1)) ((((toR (burnD (fromR d0)).1 d0.2.2.2.2.2.1).2.2.1).length : Nat) : Int).toNat) (toR (burnD (fromR d0)).1 d0.2.2.2.2.2.1).2.2.2.2.2.1).2.1).2.2.1) (((toR (keepR (fromR (toR (burnD (fromR d0)).1 d0.2.2.2.2.2.1)) ((((toR (burnD (fromR d0)).1 d0.2.2.2.2.2.1).2.2.1).length : Nat) : Int).toNat) (toR (burnD (fromR d0)).1 d0.2.2.2.2.2.1).2.2.2.2.2.1).2.1).2.2.2) [] ((toR (keepR (fromR (toR (burnD (fromR d0)).1 d0.2.2.2.2.2.1)) ((((toR (burnD (fromR d0)).1 d0.2.2.2.2.2.1).2.2.1).length : Nat) : Int).toNat) (toR (burnD (fromR d0)).1 d0.2.2.2.2.2.1).2.2.2.2.2.1).2.2.2.1) ((toR (keepR (fromR (toR (burnD (fromR d0)).1 d0.2.2.2.2.2.1)) ((((toR (burnD (fromR d0)).1 d0.2.2.2.2.2.1).2.2.1).length : Nat) : Int).toNat) (toR (burnD (fromR d0)).1 d0.2.2.2.2.2.1).2.2.2.2.2.1).2.2.2.2.1) ((toR (keepR (fromR (toR (burnD (fromR d0)).1 d0.2.2.2.2.2.1)) ((((toR (burnD (fromR d0)).1 d0.2.2.2.2.2.1).2.2.1).length : Nat) : Int).toNat) (toR (burnD (fromR d0)).1 d0.2.2.2.2.2.1).2.2.2.2.2.1).2.2.2.2.2.1) ((toR (keepR (fromR (toR (burnD (fromR d0)).1 d0.2.2.2.2.2.1)) ((((toR (burnD (fromR d0)).1 d0.2.2.2.2.2.1).2.2.1).length : Nat) : Int).toNat) (toR (burnD (fromR d0)).1 d0.2.2.2.2.2.1).2.2.2.2.2.1).2.2.2.2.2.2) (Seps.nilAt 5 hg24) (OwnL.ow (Ow.ownl q17_1 rfl mnil) rfl) (OwnL.ow (Ow.ownl q17_2 rfl mnil) rfl) (OwnL.ow (Ow.ownl q17_3 rfl mnil) rfl) (OwnL.ow (Ow.ownl q17_4 rfl mnil) rfl) (Ow.nil _ _) bdk bdk)
      refine VO.k5 0 2 3 7 12 ?_
      refine VC.rs ?_
      refine VO.as ?_
      refine VO.k5 0 2 3 7 12 ?_
      refine VC.ret ?_
      refine ⟨_, _, res_run (rs := [.tmp 2]) rfl (.tmp rfl .nil), fun W_ hI => out_of (l := [muns [mone g0 (.cells [Value.bool ((toR (keepR (fromR (toR (burnD (fromR d0)).1 d0.2.2.2.2.2.1)) ((((toR (burnD (fromR d0)).1 d0.2.2.2.2.2.1).2.2.1).length : Nat) : Int).toNat) (toR (burnD (fromR d0)).1 d0.2.2.2.2.2.1).2.2.2.2.2.1).1), Value.slice q17_A1 ((((toR (keepR (fromR (toR (burnD (fromR d0)).1 d0.2.2.2.2.2.1)) ((((toR (burnD (fromR d0)).1 d0.2.2.2.2.2.1).2.2.1).length : Nat) : Int).toNat) (toR (burnD (fromR d0)).1 d0.2.2.2.2.2.1).2.2.2.2.2.1).2.1).1).length) (q17_c1), Value.slice q17_A2 ((((toR (keepR (fromR (toR (burnD (fromR d0)).1 d0.2.2.2.2.2.1)) ((((toR (burnD (fromR d0)).1 d0.2.2.2.2.2.1).2.2.1).length : Nat) : Int).toNat) (toR (burnD (fromR d0)).1 d0.2.2.2.2.2.1).2.2.2.2.2.1).2.1).2.1).length) (q17_c2), Value.slice q17_A3 ((((toR (keepR (fromR (toR (burnD (fromR d0)).1 d0.2.2.2.2.2.1)) ((((toR (burnD (fromR d0)).1 d0.2.2.2.2.2.1).2.2.1).length : Nat) : Int).toNat) (toR (burnD (fromR d0)).1 d0.2.2.2.2.2.1).2.2.2.2.2.1).2.1).2.2.1).length) (q17_c3), Value.slice q17_A4 ((((toR (keepR (fromR (toR (burnD (fromR d0)).1 d0.2.2.2.2.2.1)) ((((toR (burnD (fromR d0)).1 d0.2.2.2.2.2.1).2.2.1).length : Nat) : Int).toNat) (toR (burnD (fromR d0)).1 d0.2.2.2.2.2.1).2.2.2.2.2.1).2.1).2.2.2).length) (q17_c4), Value.slice none (0) (0), Value.bool ((toR (keepR (fromR (toR (burnD (fromR d0)).1 d0.2.2.2.2.2.1)) ((((toR (burnD (fromR d0)).1 d0.2.2.2.2.2.1).2.2.1).length : Nat) : Int).toNat) (toR (burnD (fromR d0)).1 d0.2.2.2.2.2.1).2.2.2.2.2.1).2.2.2.1), Value.bool ((toR (keepR (fromR (toR (burnD (fromR d0)).1 d0.2.2.2.2.2.1)) ((((toR (burnD (fromR d0)).1 d0.2.2.2.2.2.1).2.2.1).length : Nat) : Int).toNat) (toR (burnD (fromR d0)).1 d0.2.2.2.2.2.1).2.2.2.2.2.1).2.2.2.2.1), Value.int .i64 ((toR (keepR (fromR (toR (burnD (fromR d0)).1 d0.2.2.2.2.2.1)) ((((toR (burnD (fromR d0)).1 d0.2.2.2.2.2.1).2.2.1).length : Nat) : Int).toNat) (toR (burnD (fromR d0)).1 d0.2.2.2.2.2.1).2.2.2.2.2.1).2.2.2.2.2.1), Value.int .i64 ((toR (keepR (fromR (toR (burnD (fromR d0)).1 d0.2.2.2.2.2.1)) ((((toR (burnD (fromR d0)).1 d0.2.2.2.2.2.1).2.2.1).length : Nat) : Int).toNat) (toR (burnD (fromR d0)).1 d0.2.2.2.2.2.1).2.2.2.2.2.1).2.2.2.2.2.2)].toArray q17_E (0, 0)), q17_n1, q17_n2, q17_n3, q17_n4]]) hI [124] rfl rfl (mle_refl _) (fun hS_ => ?_)⟩
      dsimp only [packV]
      have hm0_ : (toR (dSync (fromR d0)).1 d0.2.2.2.2.2.1 : Dref05Disk) = ((toR (keepR (fromR (toR (burnD (fromR d0)).1 d0.2.2.2.2.2.1)) ((((toR (burnD (fromR d0)).1 d0.2.2.2.2.2.1).2.2.1).length : Nat) : Int).toNat) (toR (burnD (fromR d0)).1 d0.2.2.2.2.2.1).2.2.2.2.2.1).1, ((toR (keepR (fromR (toR (burnD (fromR d0)).1 d0.2.2.2.2.2.1)) ((((toR (burnD (fromR d0)).1 d0.2.2.2.2.2.1).2.2.1).length : Nat) : Int).toNat) (toR (burnD (fromR d0)).1 d0.2.2.2.2.2.1).2.2.2.2.2.1).2.1), [], (toR (keepR (fromR (toR (burnD (fromR d0)).1 d0.2.2.2.2.2.1)) ((((toR (burnD (fromR d0)).1 d0.2.2.2.2.2.1).2.2.1).length : Nat) : Int).toNat) (toR (burnD (fromR d0)).1 d0.2.2.2.2.2.1).2.2.2.2.2.1).2.2.2) := by first | rfl | (first | (rw [sync_bad (by assumption), to_from]; done) | (rw [sync_go (by assumption) (Decidable.not_not.2 (burn_yes (by assumption)))]; exact (rsync_next (burn_ok e0) (nf_burn (nf_from d0)) (by omega)).symm) | (rw [sync_off (by assumption) (burn_not (by assumption))]))
      refine ⟨?_, ?_⟩
      rotate_left
      · rw [hm0_]; exact (Ow.up ho24 (hS_.1 _ (.head _)))
      all_goals (first | rfl | (first | (rw [sync_bad (by assumption)] <;> rfl) | (rw [sync_go (by assumption) (Decidable.not_not.2 (burn_yes (by assumption)))]; done) | (rw [sync_off (by assumption) (burn_not (by assumption))]; exact congrArg (Value.int _) (if_neg (burn_not (by assumption)))) | (rw [sync_off (by assumption) (burn_not (by assumption))]; rfl)))
theorem rFuse_ok (W : World) {m0 : Mem} (hm : mle (m0) (wm W)) {g0 : Nat} {d0 : Dref05Disk} (h0 : Ow (.ptr Tref05Disk) m0 [.pointer (some ⟨g0, 0, none⟩)] (g0, d0)) (d1 : Int) (h1 : inK .i64 d1) (e0 : okR d0) : CallR Try.prog 45 [.pointer (some ⟨g0, 0, none⟩), .int .i64 d1] W (m0) (fun v m' => v = .int .i64 ((dFuse (fromR d0) d1).2) ∧ Ow (.ptr Tref05Disk) m' [.pointer (some ⟨g0, 0, none⟩)] (g0, toR (dFuse (fromR d0) d1).1 d0.2.2.2.2.2.1)) := by
  have h1' := h1; simp only [inK] at h1'
  refine CallR.ofB (n := 20) hm Try.func45 rfl rfl rfl ?_
  refine VC.rs ?_
  refine VO.as ?_
  refine VO.k3 0 1 4 ?_
  refine VC.rs ?_
  refine VO.mv ?_
  refine VO.call 1 rfl fnOk54 rfl rfl (fun W hW => rAsked_ok W (hW.at (i := 1) rfl) h0) (fun v1 m1 hv1 => ?_)
  obtain ⟨rfl, w1_0⟩ := hv1
  refine VO.as ?_
  refine VO.k4 0 1 4 5 ?_
  refine VC.seq ?_
  refine VC.rs ?_
  refine VO.mv ?_
  refine VO.y rfl (.neq rfl rfl) ?_
  refine VO.keep [1, 0] [(1, m1), (0, mout (wm W) (m0))] (by kernel_rfl) ?_
  refine VO.k5 0 1 4 5 9 ?_
  refine VC.cond rfl (fun hc2 => ?_) (fun hc2 => ?_)
  · -- T
    refine VC.rs ?_
    refine VO.mv ?_
    refine VO.as ?_
    refine VO.k5 0 1 4 5 9 ?_
    refine VC.ret ?_
    refine outR ?_
    refine ⟨_, _, res_run (rs := [.tmp 4]) rfl (.tmp rfl .nil), fun W_ hI => out_of (l := [m1]) hI [1] rfl rfl (mle_refl _) (fun hS_ => ?_)⟩
    dsimp only [packV]
    have hm0_ : (toR (dFuse (fromR d0) d1).1 d0.2.2.2.2.2.1 : Dref05Disk) = d0 := by first | rfl | (first | (rw [show dFuse (fromR d0) d1 = (fromR d0, wrongD (fromR d0)) from if_pos (by assumption), to_from]; done) | (rw [show dFuse (fromR d0) d1 = (fromR d0, 2) from by unfold dFuse; rw [if_neg (by assumption), if_pos (by assumption)], to_from]; done) | exact congrArg Prod.fst (show (toR (dFuse (fromR d0) d1).1 d0.2.2.2.2.2.1, (0 : Int)) = ((d0.1, d0.2.1, d0.2.2.1, d0.2.2.2.1, true, d1, d0.2.2.2.2.2.2), 0) from by unfold dFuse; rw [if_neg (by assumption), if_neg (by assumption)]; simp [toR, fromR]))
    refine ⟨?_, ?_⟩
    rotate_left
    · rw [hm0_]; exact (Ow.up w1_0 (hS_.1 _ (.head _)))
    all_goals (first | rfl | (first | (rw [show dFuse (fromR d0) d1 = (fromR d0, wrongD (fromR d0)) from if_pos (by assumption)] <;> rfl) | (rw [show dFuse (fromR d0) d1 = (fromR d0, 2) from by unfold dFuse; rw [if_neg (by assumption), if_pos (by assumption)]] <;> rfl) | (unfold dFuse; rw [if_neg (by assumption), if_neg (by assumption)])))
  · -- F
    refine VC.skip ?_
    refine outN ?_
    refine VC.seq ?_
    refine VC.rs ?_
    refine VO.mv ?_
    refine VO.y rfl (.lss rfl rfl) ?_
    refine VO.k6 0 1 4 5 9 12 ?_
    refine VC.cond rfl (fun hc3 => ?_) (fun hc3 => ?_)
    · -- FT
      refine VC.rs ?_
      refine VO.as ?_
      refine VO.k6 0 1 4 5 9 12 ?_
      refine VC.ret ?_
      refine outR ?_
      refine ⟨_, _, res_run (rs := [.tmp 4]) rfl (.tmp rfl .nil), fun W_ hI => out_of (l := [m1]) hI [1] rfl rfl (mle_refl _) (fun hS_ => ?_)⟩
      dsimp only [packV]
      have hm0_ : (toR (dFuse (fromR d0) d1).1 d0.2.2.2.2.2.1 : Dref05Disk) = d0 := by first | rfl | (first | (rw [show dFuse (fromR d0) d1 = (fromR d0, wrongD (fromR d0)) from if_pos (by assumption), to_from]; done) | (rw [show dFuse (fromR d0) d1 = (fromR d0, 2) from by unfold dFuse; rw [if_neg (by assumption), if_pos (by assumption)], to_from]; done) | exact congrArg Prod.fst (show (toR (dFuse (fromR d0) d1).1 d0.2.2.2.2.2.1, (0 : Int)) = ((d0.1, d0.2.1, d0.2.2.1, d0.2.2.2.1, true, d1, d0.2.2.2.2.2.2), 0) from by unfold dFuse; rw [if_neg (by assumption), if_neg (by assumption)]; simp [toR, fromR]))
      refine ⟨?_, ?_⟩
      rotate_left
      · rw [hm0_]; exact (Ow.up w1_0 (hS_.1 _ (.head _)))
      all_goals (first | rfl | (first | (rw [show dFuse (fromR d0) d1 = (fromR d0, wrongD (fromR d0)) from if_pos (by assumption)] <;> rfl) | (rw [show dFuse (fromR d0) d1 = (fromR d0, 2) from by unfold dFuse; rw [if_neg (by assumption), if_pos (by assumption)]] <;> rfl) | (unfold dFuse; rw [if_neg (by assumption), if_neg (by assumption)])))
    · -- FF
      refine VC.skip ?_
      refine outN ?_
      refine VC.rs ?_
      refine VO.mv ?_
      refine VO.mv ?_
      refine VO.mv ?_
      refine VO.y rfl (.nilp rfl) ?_
      refine VO.y rfl (.fa rfl tst68 rfl) ?_
      obtain ⟨q4_E, q4_A1, q4_c1, q4_A2, q4_c2, q4_A3, q4_c3, q4_A4, q4_c4, q4_A5, q4_c5, q4_n1, q4_n2, q4_n3, q4_n4, q4_n5, _, q4_S, q4_1, q4_2, q4_3, q4_4, q4_5, q4_8, q4_9⟩ := openP_ref05Disk (x0 := d0.1) (x1 := d0.2.1.1) (x2 := d0.2.1.2.1) (x3 := d0.2.1.2.2.1) (x4 := d0.2.1.2.2.2) (x5 := d0.2.2.1) (x6 := d0.2.2.2.1) (x7 := d0.2.2.2.2.1) (x8 := d0.2.2.2.2.2.1) (x9 := d0.2.2.2.2.2.2) w1_0
      have q4_r1 := Rd.room (q4_1.rd (mle_refl _))
      have q4_r2 := Rd.room (q4_2.rd (mle_refl _))
      have q4_r3 := Rd.room (q4_3.rd (mle_refl _))
      have q4_r4 := Rd.room (q4_4.rd (mle_refl _))
      have q4_r5 := Rd.room (q4_5.rd (mle_refl _))
      simp only [inK] at q4_8
      simp only [inK] at q4_9
      refine VO.inv _ (fun _ h => h.parts (i := 1) rfl q4_S [110, 105, 106, 107, 108, 109]) ?_
      refine VO.store (k := 1) (c' := [Value.bool d0.1, Value.slice q4_A1 (d0.2.1.1.length) (q4_c1), Value.slice q4_A2 (d0.2.1.2.1.length) (q4_c2), Value.slice q4_A3 (d0.2.1.2.2.1.length) (q4_c3), Value.slice q4_A4 (d0.2.1.2.2.2.length) (q4_c4), Value.slice q4_A5 (d0.2.2.1.length) (q4_c5), Value.bool d0.2.2.2.1, Value.bool true, Value.int .i64 (d0.2.2.2.2.2.1), Value.int .i64 (d0.2.2.2.2.2.2)]) 110 rfl rfl (.inr ⟨tk4, rfl⟩) rfl rfl rfl rfl rfl ?_
      refine VO.y rfl (.nilp rfl) ?_
      refine VO.y rfl (.fa rfl tst68 rfl) ?_
      refine VO.store (k := 1) (c' := [Value.bool d0.1, Value.slice q4_A1 (d0.2.1.1.length) (q4_c1), Value.slice q4_A2 (d0.2.1.2.1.length) (q4_c2), Value.slice q4_A3 (d0.2.1.2.2.1.length) (q4_c3), Value.slice q4_A4 (d0.2.1.2.2.2.length) (q4_c4), Value.slice q4_A5 (d0.2.2.1.length) (q4_c5), Value.bool d0.2.2.2.1, Value.bool true, Value.int .i64 (d1), Value.int .i64 (d0.2.2.2.2.2.2)]) 110 rfl rfl (.inr ⟨tk3, rfl⟩) rfl rfl rfl rfl rfl ?_
      refine VO.gather (l := [mone g0 (.cells [Value.bool d0.1, Value.slice q4_A1 (d0.2.1.1.length) (q4_c1), Value.slice q4_A2 (d0.2.1.2.1.length) (q4_c2), Value.slice q4_A3 (d0.2.1.2.2.1.length) (q4_c3), Value.slice q4_A4 (d0.2.1.2.2.2.length) (q4_c4), Value.slice q4_A5 (d0.2.2.1.length) (q4_c5), Value.bool d0.2.2.2.1, Value.bool true, Value.int .i64 (d1), Value.int .i64 (d0.2.2.2.2.2.2)].toArray q4_E (0, 0)), q4_n1, q4_n2, q4_n3, q4_n4, q4_n5]) 111 [110, 105, 106, 107, 108, 109] rfl (fun hg11 => ?_)
      have ho11 : Ow (.ptr Tref05Disk) (muns [mone g0 (.cells [Value.bool d0.1, Value.slice q4_A1 (d0.2.1.1.length) (q4_c1), Value.slice q4_A2 (d0.2.1.2.1.length) (q4_c2), Value.slice q4_A3 (d0.2.1.2.2.1.length) (q4_c3), Value.slice q4_A4 (d0.2.1.2.2.2.length) (q4_c4), Value.slice q4_A5 (d0.2.2.1.length) (q4_c5), Value.bool d0.2.2.2.1, Value.bool true, Value.int .i64 (d1), Value.int .i64 (d0.2.2.2.2.2.2)].toArray q4_E (0, 0)), q4_n1, q4_n2, q4_n3, q4_n4, q4_n5]) [.pointer (some ⟨g0, 0, none⟩)] (g0, (d0.1, d0.2.1, d0.2.2.1, d0.2.2.2.1, true, d1, d0.2.2.2.2.2.2)) := (mkP_ref05Disk d0.1 d0.2.1.1 d0.2.1.2.1 d0.2.1.2.2.1 d0.2.1.2.2.2 d0.2.2.1 d0.2.2.2.1 true d1 d0.2.2.2.2.2.2 hg11 (OwnL.ow (Ow.ownl q4_1 rfl mnil) rfl) (OwnL.ow (Ow.ownl q4_2 rfl mnil) rfl) (OwnL.ow (Ow.ownl q4_3 rfl mnil) rfl) (OwnL.ow (Ow.ownl q4_4 rfl mnil) rfl) q4_5 bdk bdk)
      refine VO.k6 0 1 4 5 9 12 ?_
      refine VC.rs ?_
      refine VO.as ?_
      refine VO.keep [111, 0] [(111, muns [mone g0 (.cells [Value.bool d0.1, Value.slice q4_A1 (d0.2.1.1.length) (q4_c1), Value.slice q4_A2 (d0.2.1.2.1.length) (q4_c2), Value.slice q4_A3 (d0.2.1.2.2.1.length) (q4_c3), Value.slice q4_A4 (d0.2.1.2.2.2.length) (q4_c4), Value.slice q4_A5 (d0.2.2.1.length) (q4_c5), Value.bool d0.2.2.2.1, Value.bool true, Value.int .i64 (d1), Value.int .i64 (d0.2.2.2.2.2.2)].toArray q4_E (0, 0)), q4_n1, q4_n2, q4_n3, q4_n4, q4_n5]), (0, mout (wm W) (m0))] (by kernel_rfl) ?_
      refine VO.k6 0 1 4 5 9 12 ?_
      refine VC.ret ?_
      refine ⟨_, _, res_run (rs := [.tmp 4]) rfl (.tmp rfl .nil), fun W_ hI => out_of (l := [muns [mone g0 (.cells [Value.bool d0.1, Value.slice q4_A1 (d0.2.1.1.length) (q4_c1), Value.slice q4_A2 (d0.2.1.2.1.length) (q4_c2), Value.slice q4_A3 (d0.2.1.2.2.1.length) (q4_c3), Value.slice q4_A4 (d0.2.1.2.2.2.length) (q4_c4), Value.slice q4_A5 (d0.2.2.1.length) (q4_c5), Value.bool d0.2.2.2.1, Value.bool true, Value.int .i64 (d1), Value.int .i64 (d0.2.2.2.2.2.2)].toArray q4_E (0, 0)), q4_n1, q4_n2, q4_n3, q4_n4, q4_n5]]) hI [111] rfl rfl (mle_refl _) (fun hS_ => ?_)⟩
      dsimp only [packV]
      have hm0_ : (toR (dFuse (fromR d0) d1).1 d0.2.2.2.2.2.1 : Dref05Disk) = (d0.1, d0.2.1, d0.2.2.1, d0.2.2.2.1, true, d1, d0.2.2.2.2.2.2) := by first | rfl | (first | (rw [show dFuse (fromR d0) d1 = (fromR d0, wrongD (fromR d0)) from if_pos (by assumption), to_from]; done) | (rw [show dFuse (fromR d0) d1 = (fromR d0, 2) from by unfold dFuse; rw [if_neg (by assumption), if_pos (by assumption)], to_from]; done) | exact congrArg Prod.fst (show (toR (dFuse (fromR d0) d1).1 d0.2.2.2.2.2.1, (0 : Int)) = ((d0.1, d0.2.1, d0.2.2.1, d0.2.2.2.1, true, d1, d0.2.2.2.2.2.2), 0) from by unfold dFuse; rw [if_neg (by assumption), if_neg (by assumption)]; simp [toR, fromR]))
      refine ⟨?_, ?_⟩
      rotate_left
      · rw [hm0_]; exact (Ow.up ho11 (hS_.1 _ (.head _)))
      all_goals (first | rfl | (first | (rw [show dFuse (fromR d0) d1 = (fromR d0, wrongD (fromR d0)) from if_pos (by assumption)] <;> rfl) | (rw [show dFuse (fromR d0) d1 = (fromR d0, 2) from by unfold dFuse; rw [if_neg (by assumption), if_pos (by assumption)]] <;> rfl) | (unfold dFuse; rw [if_neg (by assumption), if_neg (by assumption)])))
theorem rSafe_ok (W : World) {m0 : Mem} (hm : mle (m0) (wm W)) {g0 : Nat} {d0 : Dref05Disk} (h0 : Ow (.ptr Tref05Disk) m0 [.pointer (some ⟨g0, 0, none⟩)] (g0, d0)) (e0 : okR d0) : CallR Try.prog 48 [.pointer (some ⟨g0, 0, none⟩)] W (m0) (fun v m' => v = .int .i64 ((dSafe (fromR d0)).2) ∧ Ow (.ptr Tref05Disk) m' [.pointer (some ⟨g0, 0, none⟩)] (g0, toR (dSafe (fromR d0)).1 d0.2.2.2.2.2.1)) := by
  refine CallR.ofB (n := 12) hm Try.func48 rfl rfl rfl ?_
  refine VC.rs ?_
  refine VO.as ?_
  refine VO.k2 0 2 ?_
  refine VC.rs ?_
  refine VO.mv ?_
  refine VO.call 1 rfl fnOk54 rfl rfl (fun W hW => rAsked_ok W (hW.at (i := 1) rfl) h0) (fun v1 m1 hv1 => ?_)
  obtain ⟨rfl, w1_0⟩ := hv1
  refine VO.as ?_
  refine VO.k3 0 2 3 ?_
  refine VC.seq ?_
  refine VC.rs ?_
  refine VO.mv ?_
  refine VO.y rfl (.neq rfl rfl) ?_
  refine VO.keep [1, 0] [(1, m1), (0, mout (wm W) (m0))] (by kernel_rfl) ?_
  refine VO.k4 0 2 3 7 ?_
  refine VC.cond rfl (fun hc2 => ?_) (fun hc2 => ?_)
  · -- T
    refine VC.rs ?_
    refine VO.mv ?_
    refine VO.as ?_
    refine VO.k4 0 2 3 7 ?_
    refine VC.ret ?_
    refine outR ?_
    refine ⟨_, _, res_run (rs := [.tmp 2]) rfl (.tmp rfl .nil), fun W_ hI => out_of (l := [m1]) hI [1] rfl rfl (mle_refl _) (fun hS_ => ?_)⟩
    dsimp only [packV]
    have hm0_ : (toR (dSafe (fromR d0)).1 d0.2.2.2.2.2.1 : Dref05Disk) = d0 := by first | rfl | (first | (rw [show dSafe (fromR d0) = (fromR d0, wrongD (fromR d0)) from if_pos (by assumption), to_from]; done) | (unfold dSafe; rw [if_neg (by assumption)]; simp [toR, fromR]; done))
    refine ⟨?_, ?_⟩
    rotate_left
    · rw [hm0_]; exact (Ow.up w1_0 (hS_.1 _ (.head _)))
    all_goals (first | rfl | (first | (rw [show dSafe (fromR d0) = (fromR d0, wrongD (fromR d0)) from if_pos (by assumption)] <;> rfl) | (unfold dSafe; rw [if_neg (by assumption)])))
  · -- F
    refine VC.skip ?_
    refine outN ?_
    refine VC.rs ?_
    refine VO.mv ?_
    refine VO.y rfl (.nilp rfl) ?_
    refine VO.y rfl (.fa rfl tst68 rfl) ?_
    obtain ⟨q3_E, q3_A1, q3_c1, q3_A2, q3_c2, q3_A3, q3_c3, q3_A4, q3_c4, q3_A5, q3_c5, q3_n1, q3_n2, q3_n3, q3_n4, q3_n5, _, q3_S, q3_1, q3_2, q3_3, q3_4, q3_5, q3_8, q3_9⟩ := openP_ref05Disk (x0 := d0.1) (x1 := d0.2.1.1) (x2 := d0.2.1.2.1) (x3 := d0.2.1.2.2.1) (x4 := d0.2.1.2.2.2) (x5 := d0.2.2.1) (x6 := d0.2.2.2.1) (x7 := d0.2.2.2.2.1) (x8 := d0.2.2.2.2.2.1) (x9 := d0.2.2.2.2.2.2) w1_0
    have q3_r1 := Rd.room (q3_1.rd (mle_refl _))
    have q3_r2 := Rd.room (q3_2.rd (mle_refl _))
    have q3_r3 := Rd.room (q3_3.rd (mle_refl _))
    have q3_r4 := Rd.room (q3_4.rd (mle_refl _))
    have q3_r5 := Rd.room (q3_5.rd (mle_refl _))
    simp only [inK] at q3_8
    simp only [inK] at q3_9
    refine VO.inv _ (fun _ h => h.parts (i := 1) rfl q3_S [109, 104, 105, 106, 107, 108]) ?_
    refine VO.store (k := 1) (c' := [Value.bool d0.1, Value.slice q3_A1 (d0.2.1.1.length) (q3_c1), Value.slice q3_A2 (d0.2.1.2.1.length) (q3_c2), Value.slice q3_A3 (d0.2.1.2.2.1.length) (q3_c3), Value.slice q3_A4 (d0.2.1.2.2.2.length) (q3_c4), Value.slice q3_A5 (d0.2.2.1.length) (q3_c5), Value.bool d0.2.2.2.1, Value.bool false, Value.int .i64 (d0.2.2.2.2.2.1), Value.int .i64 (d0.2.2.2.2.2.2)]) 109 rfl rfl (.inr ⟨tk4, rfl⟩) rfl rfl rfl rfl rfl ?_
    refine VO.gather (l := [mone g0 (.cells [Value.bool d0.1, Value.slice q3_A1 (d0.2.1.1.length) (q3_c1), Value.slice q3_A2 (d0.2.1.2.1.length) (q3_c2), Value.slice q3_A3 (d0.2.1.2.2.1.length) (q3_c3), Value.slice q3_A4 (d0.2.1.2.2.2.length) (q3_c4), Value.slice q3_A5 (d0.2.2.1.length) (q3_c5), Value.bool d0.2.2.2.1, Value.bool false, Value.int .i64 (d0.2.2.2.2.2.1), Value.int .i64 (d0.2.2.2.2.2.2)].toArray q3_E (0, 0)), q3_n1, q3_n2, q3_n3, q3_n4, q3_n5]) 110 [109, 104, 105, 106, 107, 108] rfl (fun hg10 => ?_)
    have ho10 : Ow (.ptr Tref05Disk) (muns [mone g0 (.cells [Value.bool d0.1, Value.slice q3_A1 (d0.2.1.1.length) (q3_c1), Value.slice q3_A2 (d0.2.1.2.1.length) (q3_c2), Value.slice q3_A3 (d0.2.1.2.2.1.length) (q3_c3), Value.slice q3_A4 (d0.2.1.2.2.2.length) (q3_c4), Value.slice q3_A5 (d0.2.2.1.length) (q3_c5), Value.bool d0.2.2.2.1, Value.bool false, Value.int .i64 (d0.2.2.2.2.2.1), Value.int .i64 (d0.2.2.2.2.2.2)].toArray q3_E (0, 0)), q3_n1, q3_n2, q3_n3, q3_n4, q3_n5]) [.pointer (some ⟨g0, 0, none⟩)] (g0, (d0.1, d0.2.1, d0.2.2.1, d0.2.2.2.1, false, d0.2.2.2.2.2)) := (mkP_ref05Disk d0.1 d0.2.1.1 d0.2.1.2.1 d0.2.1.2.2.1 d0.2.1.2.2.2 d0.2.2.1 d0.2.2.2.1 false d0.2.2.2.2.2.1 d0.2.2.2.2.2.2 hg10 (OwnL.ow (Ow.ownl q3_1 rfl mnil) rfl) (OwnL.ow (Ow.ownl q3_2 rfl mnil) rfl) (OwnL.ow (Ow.ownl q3_3 rfl mnil) rfl) (OwnL.ow (Ow.ownl q3_4 rfl mnil) rfl) q3_5 bdk bdk)
    refine VO.k4 0 2 3 7 ?_
    refine VC.rs ?_
    refine VO.as ?_
    refine VO.k4 0 2 3 7 ?_
    refine VC.ret ?_
    refine ⟨_, _, res_run (rs := [.tmp 2]) rfl (.tmp rfl .nil), fun W_ hI => out_of (l := [muns [mone g0 (.cells [Value.bool d0.1, Value.slice q3_A1 (d0.2.1.1.length) (q3_c1), Value.slice q3_A2 (d0.2.1.2.1.length) (q3_c2), Value.slice q3_A3 (d0.2.1.2.2.1.length) (q3_c3), Value.slice q3_A4 (d0.2.1.2.2.2.length) (q3_c4), Value.slice q3_A5 (d0.2.2.1.length) (q3_c5), Value.bool d0.2.2.2.1, Value.bool false, Value.int .i64 (d0.2.2.2.2.2.1), Value.int .i64 (d0.2.2.2.2.2.2)].toArray q3_E (0, 0)), q3_n1, q3_n2, q3_n3, q3_n4, q3_n5]]) hI [110] rfl rfl (mle_refl _) (fun hS_ => ?_)⟩
    dsimp only [packV]
    have hm0_ : (toR (dSafe (fromR d0)).1 d0.2.2.2.2.2.1 : Dref05Disk) = (d0.1, d0.2.1, d0.2.2.1, d0.2.2.2.1, false, d0.2.2.2.2.2) := by first | rfl | (first | (rw [show dSafe (fromR d0) = (fromR d0, wrongD (fromR d0)) from if_pos (by assumption), to_from]; done) | (unfold dSafe; rw [if_neg (by assumption)]; simp [toR, fromR]; done))
    refine ⟨?_, ?_⟩
    rotate_left
    · rw [hm0_]; exact (Ow.up ho10 (hS_.1 _ (.head _)))
    all_goals (first | rfl | (first | (rw [show dSafe (fromR d0) = (fromR d0, wrongD (fromR d0)) from if_pos (by assumption)] <;> rfl) | (unfold dSafe; rw [if_neg (by assumption)])))
theorem rPull_ok (W : World) {m0 : Mem} (hm : mle (m0) (wm W)) {g0 : Nat} {d0 : Dref05Disk} (h0 : Ow (.ptr Tref05Disk) m0 [.pointer (some ⟨g0, 0, none⟩)] (g0, d0)) (e0 : okR d0) : CallR Try.prog 46 [.pointer (some ⟨g0, 0, none⟩)] W (m0) (fun v m' => v = .int .i64 ((dPull (fromR d0)).2) ∧ Ow (.ptr Tref05Disk) m' [.pointer (some ⟨g0, 0, none⟩)] (g0, toR (dPull (fromR d0)).1 d0.2.2.2.2.2.1)) := by
  refine CallR.ofB (n := 12) hm Try.func46 rfl rfl rfl ?_
  refine VC.rs ?_
  refine VO.as ?_
  refine VO.k2 0 2 ?_
  refine VC.rs ?_
  refine VO.mv ?_
  refine VO.call 1 rfl fnOk54 rfl rfl (fun W hW => rAsked_ok W (hW.at (i := 1) rfl) h0) (fun v1 m1 hv1 => ?_)
  obtain ⟨rfl, w1_0⟩ := hv1
  refine VO.as ?_
  refine VO.k3 0 2 3 ?_
  refine VC.seq ?_
  refine VC.rs ?_
  refine VO.mv ?_
  refine VO.y rfl (.neq rfl rfl) ?_
  refine VO.keep [1, 0] [(1, m1), (0, mout (wm W) (m0))] (by kernel_rfl) ?_
  refine VO.k4 0 2 3 7 ?_
  refine VC.cond rfl (fun hc2 => ?_) (fun hc2 => ?_)
  · -- T
    refine VC.rs ?_
    refine VO.mv ?_
    refine VO.as ?_
    refine VO.k4 0 2 3 7 ?_
    refine VC.ret ?_
    refine outR ?_
    refine ⟨_, _, res_run (rs := [.tmp 2]) rfl (.tmp rfl .nil), fun W_ hI => out_of (l := [m1]) hI [1] rfl rfl (mle_refl _) (fun hS_ => ?_)⟩
    dsimp only [packV]
    have hm0_ : (toR (dPull (fromR d0)).1 d0.2.2.2.2.2.1 : Dref05Disk) = d0 := by first | rfl | (first | (rw [show dPull (fromR d0) = (fromR d0, wrongD (fromR d0)) from if_pos (by assumption), to_from]; done) | exact rpull_go (by assumption))
    refine ⟨?_, ?_⟩
    rotate_left
    · rw [hm0_]; exact (Ow.up w1_0 (hS_.1 _ (.head _)))
    all_goals (first | rfl | (first | (rw [show dPull (fromR d0) = (fromR d0, wrongD (fromR d0)) from if_pos (by assumption)] <;> rfl) | (unfold dPull; rw [if_neg (by assumption)])))
  · -- F
    refine VC.skip ?_
    refine outN ?_
    refine VC.rs ?_
    refine VO.mv ?_
    refine VO.y rfl (.nilp rfl) ?_
    refine VO.y rfl (.fa rfl tst68 rfl) ?_
    obtain ⟨q3_E, q3_A1, q3_c1, q3_A2, q3_c2, q3_A3, q3_c3, q3_A4, q3_c4, q3_A5, q3_c5, q3_n1, q3_n2, q3_n3, q3_n4, q3_n5, _, q3_S, q3_1, q3_2, q3_3, q3_4, q3_5, q3_8, q3_9⟩ := openP_ref05Disk (x0 := d0.1) (x1 := d0.2.1.1) (x2 := d0.2.1.2.1) (x3 := d0.2.1.2.2.1) (x4 := d0.2.1.2.2.2) (x5 := d0.2.2.1) (x6 := d0.2.2.2.1) (x7 := d0.2.2.2.2.1) (x8 := d0.2.2.2.2.2.1) (x9 := d0.2.2.2.2.2.2) w1_0
    have q3_r1 := Rd.room (q3_1.rd (mle_refl _))
    have q3_r2 := Rd.room (q3_2.rd (mle_refl _))
    have q3_r3 := Rd.room (q3_3.rd (mle_refl _))
    have q3_r4 := Rd.room (q3_4.rd (mle_refl _))
    have q3_r5 := Rd.room (q3_5.rd (mle_refl _))
    simp only [inK] at q3_8
    simp only [inK] at q3_9
    refine VO.inv _ (fun _ h => h.parts (i := 1) rfl q3_S [109, 104, 105, 106, 107, 108]) ?_
    refine VO.store (k := 1) (c' := [Value.bool d0.1, Value.slice q3_A1 (d0.2.1.1.length) (q3_c1), Value.slice q3_A2 (d0.2.1.2.1.length) (q3_c2), Value.slice q3_A3 (d0.2.1.2.2.1.length) (q3_c3), Value.slice q3_A4 (d0.2.1.2.2.2.length) (q3_c4), Value.slice q3_A5 (d0.2.2.1.length) (q3_c5), Value.bool false, Value.bool d0.2.2.2.2.1, Value.int .i64 (d0.2.2.2.2.2.1), Value.int .i64 (d0.2.2.2.2.2.2)]) 109 rfl rfl (.inr ⟨tk4, rfl⟩) rfl rfl rfl rfl rfl ?_
    refine VO.gather (l := [mone g0 (.cells [Value.bool d0.1, Value.slice q3_A1 (d0.2.1.1.length) (q3_c1), Value.slice q3_A2 (d0.2.1.2.1.length) (q3_c2), Value.slice q3_A3 (d0.2.1.2.2.1.length) (q3_c3), Value.slice q3_A4 (d0.2.1.2.2.2.length) (q3_c4), Value.slice q3_A5 (d0.2.2.1.length) (q3_c5), Value.bool false, Value.bool d0.2.2.2.2.1, Value.int .i64 (d0.2.2.2.2.2.1), Value.int .i64 (d0.2.2.2.2.2.2)].toArray q3_E (0, 0)), q3_n1, q3_n2, q3_n3, q3_n4, q3_n5]) 110 [109, 104, 105, 106, 107, 108] rfl (fun hg10 => ?_)
    have ho10 : Ow (.ptr Tref05Disk) (muns [mone g0 (.cells [Value.bool d0.1, Value.slice q3_A1 (d0.2.1.1.length) (q3_c1), Value.slice q3_A2 (d0.2.1.2.1.length) (q3_c2), Value.slice q3_A3 (d0.2.1.2.2.1.length) (q3_c3), Value.slice q3_A4 (d0.2.1.2.2.2.length) (q3_c4), Value.slice q3_A5 (d0.2.2.1.length) (q3_c5), Value.bool false, Value.bool d0.2.2.2.2.1, Value.int .i64 (d0.2.2.2.2.2.1), Value.int .i64 (d0.2.2.2.2.2.2)].toArray q3_E (0, 0)), q3_n1, q3_n2, q3_n3, q3_n4, q3_n5]) [.pointer (some ⟨g0, 0, none⟩)] (g0, (d0.1, d0.2.1, d0.2.2.1, false, d0.2.2.2.2)) := (mkP_ref05Disk d0.1 d0.2.1.1 d0.2.1.2.1 d0.2.1.2.2.1 d0.2.1.2.2.2 d0.2.2.1 false d0.2.2.2.2.1 d0.2.2.2.2.2.1 d0.2.2.2.2.2.2 hg10 (OwnL.ow (Ow.ownl q3_1 rfl mnil) rfl) (OwnL.ow (Ow.ownl q3_2 rfl mnil) rfl) (OwnL.ow (Ow.ownl q3_3 rfl mnil) rfl) (OwnL.ow (Ow.ownl q3_4 rfl mnil) rfl) q3_5 bdk bdk)
    refine VO.k4 0 2 3 7 ?_
    refine VC.rs ?_
    refine VO.as ?_
    refine VO.k4 0 2 3 7 ?_
    refine VC.ret ?_
    refine ⟨_, _, res_run (rs := [.tmp 2]) rfl (.tmp rfl .nil), fun W_ hI => out_of (l := [muns [mone g0 (.cells [Value.bool d0.1, Value.slice q3_A1 (d0.2.1.1.length) (q3_c1), Value.slice q3_A2 (d0.2.1.2.1.length) (q3_c2), Value.slice q3_A3 (d0.2.1.2.2.1.length) (q3_c3), Value.slice q3_A4 (d0.2.1.2.2.2.length) (q3_c4), Value.slice q3_A5 (d0.2.2.1.length) (q3_c5), Value.bool false, Value.bool d0.2.2.2.2.1, Value.int .i64 (d0.2.2.2.2.2.1), Value.int .i64 (d0.2.2.2.2.2.2)].toArray q3_E (0, 0)), q3_n1, q3_n2, q3_n3, q3_n4, q3_n5]]) hI [110] rfl rfl (mle_refl _) (fun hS_ => ?_)⟩
    dsimp only [packV]
    have hm0_ : (toR (dPull (fromR d0)).1 d0.2.2.2.2.2.1 : Dref05Disk) = (d0.1, d0.2.1, d0.2.2.1, false, d0.2.2.2.2) := by first | rfl | (first | (rw [show dPull (fromR d0) = (fromR d0, wrongD (fromR d0)) from if_pos (by assumption), to_from]; done) | exact rpull_go (by assumption))
    refine ⟨?_, ?_⟩
    rotate_left
    · rw [hm0_]; exact (Ow.up ho10 (hS_.1 _ (.head _)))
    all_goals (first | rfl | (first | (rw [show dPull (fromR d0) = (fromR d0, wrongD (fromR d0)) from if_pos (by assumption)] <;> rfl) | (unfold dPull; rw [if_neg (by assumption)])))
theorem fin0_rRead_ok {P : Prop} (h : P := by first | rfl | (unfold dRead; first | (rw [if_pos (by assumption)]; done) | (rw [if_neg (by assumption), if_pos (fun q_ : inF d1 => by obtain ⟨q1_, q2_⟩ := q_; omega)]; done) | (rw [if_neg (by assumption), if_neg (Decidable.not_not.2 (show inF d1 from ⟨by omega, by omega⟩))]; done) | (rw [if_neg (by assumption), if_neg (Decidable.not_not.2 (show inF d1 from ⟨by omega, by omega⟩))]; rfl))) : P := h
theorem rRead_ok (W : World) {m0 : Mem} (hm : mle (m0) (wm W)) {g0 : Nat} {d0 : Dref05Disk} (h0 : Ow (.ptr Tref05Disk) m0 [.pointer (some ⟨g0, 0, none⟩)] (g0, d0)) (d1 : Int) (h1 : inK .i64 d1) (e0 : okR d0) (e1 : wD (fromR d0) ≤ 1000000000000) : CallR Try.prog 52 [.pointer (some ⟨g0, 0, none⟩), .int .i64 d1] W (m0) (fun v m' => ∃ (s0 : Value), ∃ (p0 : Mem), ∃ (p1 : Mem), v = .tuple #[s0, .int .i64 ((dRead (fromR d0) d1).2)] ∧ Seps m' [p0, p1] ∧ Ow (.sl .byte) p0 [s0] ((dRead (fromR d0) d1).1) ∧ Ow (.ptr Tref05Disk) p1 [.pointer (some ⟨g0, 0, none⟩)] (g0, d0)) := by
  have h1' := h1; simp only [inK] at h1'
  refine CallR.ofB (n := 21) hm Try.func52 rfl rfl rfl ?_
  refine VC.rs ?_
  refine VO.as ?_
  refine VO.as ?_
  refine VO.k4 0 1 4 5 ?_
  refine VC.rs ?_
  refine VO.mv ?_
  refine VO.call 1 rfl fnOk54 rfl rfl (fun W hW => rAsked_ok W (hW.at (i := 1) rfl) h0) (fun v1 m1 hv1 => ?_)
  obtain ⟨rfl, w1_0⟩ := hv1
  refine VO.as ?_
  refine VO.k5 0 1 4 5 6 ?_
  refine VC.seq ?_
  refine VC.rs ?_
  refine VO.mv ?_
  refine VO.y rfl (.neq rfl rfl) ?_
  refine VO.keep [1, 0] [(1, m1), (0, mout (wm W) (m0))] (by kernel_rfl) ?_
  refine VO.k6 0 1 4 5 6 10 ?_
  refine VC.cond rfl (fun hc2 => ?_) (fun hc2 => ?_)
  · -- T
    refine VC.rs ?_
    refine VO.mv ?_
    refine VO.as ?_
    refine VO.as ?_
    refine VO.k6 0 1 4 5 6 10 ?_
    refine VC.ret ?_
    refine outR ?_
    refine ⟨_, _, res_run (rs := [.tmp 4, .tmp 5]) rfl (.tmp rfl (.tmp rfl .nil)), fun W_ hI => out_of (l := [m1]) hI [1] rfl rfl (mle_refl _) (fun hS_ => ?_)⟩
    dsimp only [packV]
    have he0 : ((dRead (fromR d0) d1).1 : Ty.Den (.sl .byte)) = [] := by first | rfl | (exact fin0_rRead_ok)
    have hm0_ : (d0 : Dref05Disk) = d0 := by first | rfl | (exact fin0_rRead_ok)
    refine ⟨Value.slice none (0) (0), muns [], muns [m1], ?_, ?_, ?_, ?_⟩
    rotate_left
    · exact Seps.grp (ls := [[], [m1]]) hS_
    · rw [he0]; exact (Ow.nil _ _)
    · rw [hm0_]; exact (Ow.up w1_0 ((Seps.self hS_ (List.Sublist.cons_cons _ List.Sublist.slnil)).1 _ (.head _)))
    all_goals (first | rfl | (first | rfl | (unfold dRead; first | (rw [if_pos (by assumption)]; done) | (rw [if_neg (by assumption), if_pos (fun q_ : inF d1 => by obtain ⟨q1_, q2_⟩ := q_; omega)]; done) | (rw [if_neg (by assumption), if_neg (Decidable.not_not.2 (show inF d1 from ⟨by omega, by omega⟩))]; done))))
  · -- F
    refine VC.skip ?_
    refine outN ?_
    refine VC.seq ?_
    refine VC.rs ?_
    refine VO.mv ?_
    refine VO.y rfl (.lss rfl rfl) ?_
    refine VO.mv ?_
    refine VO.dec (t := 14) rfl (fun hc3 => ?_) (fun hc3 => ?_)
    · -- FT
      refine VO.gN ?_
      refine VO.gN ?_
      refine VO.y rfl (.pT rfl rfl) ?_
      refine VO.k7 0 1 4 5 6 10 17 ?_
      refine VC.condT rfl ?_
      refine VC.rs ?_
      refine VO.as ?_
      refine VO.as ?_
      refine VO.k7 0 1 4 5 6 10 17 ?_
      refine VC.ret ?_
      refine outR ?_
      refine ⟨_, _, res_run (rs := [.tmp 4, .tmp 5]) rfl (.tmp rfl (.tmp rfl .nil)), fun W_ hI => out_of (l := [m1]) hI [1] rfl rfl (mle_refl _) (fun hS_ => ?_)⟩
      dsimp only [packV]
      have he0 : ((dRead (fromR d0) d1).1 : Ty.Den (.sl .byte)) = [] := by first | rfl | (exact fin0_rRead_ok)
      have hm0_ : (d0 : Dref05Disk) = d0 := by first | rfl | (exact fin0_rRead_ok)
      refine ⟨Value.slice none (0) (0), muns [], muns [m1], ?_, ?_, ?_, ?_⟩
      rotate_left
      · exact Seps.grp (ls := [[], [m1]]) hS_
      · rw [he0]; exact (Ow.nil _ _)
      · rw [hm0_]; exact (Ow.up w1_0 ((Seps.self hS_ (List.Sublist.cons_cons _ List.Sublist.slnil)).1 _ (.head _)))
      all_goals (first | rfl | (first | rfl | (unfold dRead; first | (rw [if_pos (by assumption)]; done) | (rw [if_neg (by assumption), if_pos (fun q_ : inF d1 => by obtain ⟨q1_, q2_⟩ := q_; omega)]; done) | (rw [if_neg (by assumption), if_neg (Decidable.not_not.2 (show inF d1 from ⟨by omega, by omega⟩))]; done))))
    · -- FF
      refine VO.gy rfl ⟨_, rfl, rfl⟩ (.mv rfl) ?_
      refine VO.gy rfl ⟨_, rfl, rfl⟩ (.geq rfl rfl) ?_
      refine VO.y rfl (.pF rfl rfl) ?_
      refine VO.k7 0 1 4 5 6 10 17 ?_
      refine VC.cond rfl (fun hc4 => ?_) (fun hc4 => ?_)
      · -- FFT
        refine VC.rs ?_
        refine VO.as ?_
        refine VO.as ?_
        refine VO.k7 0 1 4 5 6 10 17 ?_
        refine VC.ret ?_
        refine outR ?_
        refine ⟨_, _, res_run (rs := [.tmp 4, .tmp 5]) rfl (.tmp rfl (.tmp rfl .nil)), fun W_ hI => out_of (l := [m1]) hI [1] rfl rfl (mle_refl _) (fun hS_ => ?_)⟩
        dsimp only [packV]
        have he0 : ((dRead (fromR d0) d1).1 : Ty.Den (.sl .byte)) = [] := by first | rfl | (exact fin0_rRead_ok)
        have hm0_ : (d0 : Dref05Disk) = d0 := by first | rfl | (exact fin0_rRead_ok)
        refine ⟨Value.slice none (0) (0), muns [], muns [m1], ?_, ?_, ?_, ?_⟩
        rotate_left
        · exact Seps.grp (ls := [[], [m1]]) hS_
        · rw [he0]; exact (Ow.nil _ _)
        · rw [hm0_]; exact (Ow.up w1_0 ((Seps.self hS_ (List.Sublist.cons_cons _ List.Sublist.slnil)).1 _ (.head _)))
        all_goals (first | rfl | (first | rfl | (unfold dRead; first | (rw [if_pos (by assumption)]; done) | (rw [if_neg (by assumption), if_pos (fun q_ : inF d1 => by obtain ⟨q1_, q2_⟩ := q_; omega)]; done) | (rw [if_neg (by assumption), if_neg (Decidable.not_not.2 (show inF d1 from ⟨by omega, by omega⟩))]; done))))
      · -- FFF
        refine VC.skip ?_
        refine outN ?_
        refine VC.rs ?_
        refine VO.mv ?_
        refine VO.mv ?_
        refine VO.call 1 rfl fnOk56 rfl rfl (fun W hW => rHolds_ok W (hW.at (i := 1) rfl) w1_0 d1 bdk (by assumption) bd (by first | assumption | exact ⟨by omega, by omega⟩)) (fun v5 m5 hv5 => ?_)
        obtain ⟨s5_0, p5_0, p5_1, rfl, hS5, f5_0, w5_0⟩ := hv5
        refine VO.inv _ (fun _ h => h.parts (i := 1) rfl hS5 [106, 107]) ?_
        have hfa8 := heldB_size d0.2.1 (d0.2.2.1.map stepOf) d1
        obtain ⟨A5_0, c5_0, eq5_0, l5_0, k5_0⟩ := f5_0.slice
        subst eq5_0
        simp only [maxLen] at k5_0
        refine VO.as ?_
        refine VO.as ?_
        refine VO.k7 0 1 4 5 6 10 17 ?_
        refine VC.ret ?_
        refine ⟨_, _, res_run (rs := [.tmp 4, .tmp 5]) rfl (.tmp rfl (.tmp rfl .nil)), fun W_ hI => out_of (l := [p5_0, p5_1]) hI [106, 107] rfl rfl (mle_refl _) (fun hS_ => ?_)⟩
        dsimp only [packV]
        have he0 : ((dRead (fromR d0) d1).1 : Ty.Den (.sl .byte)) = heldB d0.2.1 (d0.2.2.1.map stepOf) d1 := by first | rfl | (exact fin0_rRead_ok)
        have hm0_ : (d0 : Dref05Disk) = d0 := by first | rfl | (exact fin0_rRead_ok)
        refine ⟨Value.slice A5_0 ((heldB d0.2.1 (d0.2.2.1.map stepOf) d1).length) (c5_0), muns [p5_0], muns [p5_1], ?_, ?_, ?_, ?_⟩
        rotate_left
        · exact Seps.grp (ls := [[p5_0], [p5_1]]) hS_
        · rw [he0]; exact (Ow.up (OwnL.ow (Ow.ownl f5_0 rfl mnil) rfl) ((Seps.self hS_ (List.Sublist.cons_cons _ (List.Sublist.cons _ List.Sublist.slnil))).1 _ (.head _)))
        · rw [hm0_]; exact (Ow.up w5_0 ((Seps.self hS_ (List.Sublist.cons _ (List.Sublist.cons_cons _ List.Sublist.slnil))).1 _ (.head _)))
        all_goals (first | rfl | (first | rfl | (unfold dRead; first | (rw [if_pos (by assumption)]; done) | (rw [if_neg (by assumption), if_pos (fun q_ : inF d1 => by obtain ⟨q1_, q2_⟩ := q_; omega)]; done) | (rw [if_neg (by assumption), if_neg (Decidable.not_not.2 (show inF d1 from ⟨by omega, by omega⟩))]; done))))
theorem rOn_ok (W : World) {m0 : Mem} (hm : mle (m0) (wm W)) {g0 : Nat} {d0 : Dref05Disk} (h0 : Ow (.ptr Tref05Disk) m0 [.pointer (some ⟨g0, 0, none⟩)] (g0, d0)) : CallR Try.prog 49 [.pointer (some ⟨g0, 0, none⟩)] W (m0) (fun v m' => v = .bool (decide ((fromR d0).1 = true ∧ (fromR d0).2.1 = false)) ∧ Ow (.ptr Tref05Disk) m' [.pointer (some ⟨g0, 0, none⟩)] (g0, d0)) := by
  refine CallR.ofB (n := 12) hm Try.func49 rfl rfl rfl ?_
  refine VC.rs ?_
  refine VO.as ?_
  refine VO.k2 0 2 ?_
  refine VC.rs ?_
  refine VO.mv ?_
  refine VO.call 1 rfl fnOk58 rfl rfl (fun W hW => rNone_ok W (hW.at (i := 1) rfl) h0) (fun v1 m1 hv1 => ?_)
  obtain ⟨rfl, w1_0⟩ := hv1
  refine VO.y rfl (.notD rfl) ?_
  refine VO.mv ?_
  refine VO.dec (t := 6) rfl (fun hc2 => ?_) (fun hc2 => ?_)
  · -- T
    refine VO.gy rfl ⟨_, rfl, rfl⟩ (.mv rfl) ?_
    refine VO.gy rfl ⟨_, rfl, rfl⟩ (.nilp rfl) ?_
    refine VO.gy rfl ⟨_, rfl, rfl⟩ (.fa rfl tst68 rfl) ?_
    obtain ⟨q3_E, q3_A1, q3_c1, q3_A2, q3_c2, q3_A3, q3_c3, q3_A4, q3_c4, q3_A5, q3_c5, q3_n1, q3_n2, q3_n3, q3_n4, q3_n5, _, q3_S, q3_1, q3_2, q3_3, q3_4, q3_5, q3_8, q3_9⟩ := openP_ref05Disk (x0 := d0.1) (x1 := d0.2.1.1) (x2 := d0.2.1.2.1) (x3 := d0.2.1.2.2.1) (x4 := d0.2.1.2.2.2) (x5 := d0.2.2.1) (x6 := d0.2.2.2.1) (x7 := d0.2.2.2.2.1) (x8 := d0.2.2.2.2.2.1) (x9 := d0.2.2.2.2.2.2) w1_0
    have q3_r1 := Rd.room (q3_1.rd (mle_refl _))
    have q3_r2 := Rd.room (q3_2.rd (mle_refl _))
    have q3_r3 := Rd.room (q3_3.rd (mle_refl _))
    have q3_r4 := Rd.room (q3_4.rd (mle_refl _))
    have q3_r5 := Rd.room (q3_5.rd (mle_refl _))
    simp only [inK] at q3_8
    simp only [inK] at q3_9
    refine VO.inv _ (fun _ h => h.parts (i := 1) rfl q3_S [109, 104, 105, 106, 107, 108]) ?_
    refine VO.gy rfl ⟨_, rfl, rfl⟩ (.ld1 109 rfl tk4 rfl (cellsAt_one rfl rfl)) ?_
    refine VO.y rfl (.pT rfl rfl) ?_
    refine VO.as ?_
    refine VO.gather (l := [mone g0 (.cells [Value.bool d0.1, Value.slice q3_A1 (d0.2.1.1.length) (q3_c1), Value.slice q3_A2 (d0.2.1.2.1.length) (q3_c2), Value.slice q3_A3 (d0.2.1.2.2.1.length) (q3_c3), Value.slice q3_A4 (d0.2.1.2.2.2.length) (q3_c4), Value.slice q3_A5 (d0.2.2.1.length) (q3_c5), Value.bool d0.2.2.2.1, Value.bool d0.2.2.2.2.1, Value.int .i64 (d0.2.2.2.2.2.1), Value.int .i64 (d0.2.2.2.2.2.2)].toArray q3_E (0, 0)), q3_n1, q3_n2, q3_n3, q3_n4, q3_n5]) 110 [109, 104, 105, 106, 107, 108] rfl (fun hg10 => ?_)
    have ho10 : Ow (.ptr Tref05Disk) (muns [mone g0 (.cells [Value.bool d0.1, Value.slice q3_A1 (d0.2.1.1.length) (q3_c1), Value.slice q3_A2 (d0.2.1.2.1.length) (q3_c2), Value.slice q3_A3 (d0.2.1.2.2.1.length) (q3_c3), Value.slice q3_A4 (d0.2.1.2.2.2.length) (q3_c4), Value.slice q3_A5 (d0.2.2.1.length) (q3_c5), Value.bool d0.2.2.2.1, Value.bool d0.2.2.2.2.1, Value.int .i64 (d0.2.2.2.2.2.1), Value.int .i64 (d0.2.2.2.2.2.2)].toArray q3_E (0, 0)), q3_n1, q3_n2, q3_n3, q3_n4, q3_n5]) [.pointer (some ⟨g0, 0, none⟩)] (g0, d0) := (show Ow (.ptr Tref05Disk) _ _ (_, d0) from (mkP_ref05Disk d0.1 d0.2.1.1 d0.2.1.2.1 d0.2.1.2.2.1 d0.2.1.2.2.2 d0.2.2.1 d0.2.2.2.1 d0.2.2.2.2.1 d0.2.2.2.2.2.1 d0.2.2.2.2.2.2 hg10 (OwnL.ow (Ow.ownl q3_1 rfl mnil) rfl) (OwnL.ow (Ow.ownl q3_2 rfl mnil) rfl) (OwnL.ow (Ow.ownl q3_3 rfl mnil) rfl) (OwnL.ow (Ow.ownl q3_4 rfl mnil) rfl) q3_5 bdk bdk))
    refine VO.k2 0 2 ?_
    refine VC.ret ?_
    refine ⟨_, _, res_run (rs := [.tmp 2]) rfl (.tmp rfl .nil), fun W_ hI => out_of (l := [muns [mone g0 (.cells [Value.bool d0.1, Value.slice q3_A1 (d0.2.1.1.length) (q3_c1), Value.slice q3_A2 (d0.2.1.2.1.length) (q3_c2), Value.slice q3_A3 (d0.2.1.2.2.1.length) (q3_c3), Value.slice q3_A4 (d0.2.1.2.2.2.length) (q3_c4), Value.slice q3_A5 (d0.2.2.1.length) (q3_c5), Value.bool d0.2.2.2.1, Value.bool d0.2.2.2.2.1, Value.int .i64 (d0.2.2.2.2.2.1), Value.int .i64 (d0.2.2.2.2.2.2)].toArray q3_E (0, 0)), q3_n1, q3_n2, q3_n3, q3_n4, q3_n5]]) hI [110] rfl rfl (mle_refl _) (fun hS_ => ?_)⟩
    dsimp only [packV]
    have hm0_ : (d0 : Dref05Disk) = d0 := by first | rfl | (simp [*]; done)
    refine ⟨?_, ?_⟩
    rotate_left
    · rw [hm0_]; exact (Ow.up ho10 (hS_.1 _ (.head _)))
    all_goals (first | rfl | (first | exact congrArg Value.bool (on_T (by assumption)) | exact congrArg Value.bool (on_F (by assumption))))
  · -- F
    refine VO.gN ?_
    refine VO.gN ?_
    refine VO.gN ?_
    refine VO.gN ?_
    refine VO.y rfl (.pF rfl rfl) ?_
    refine VO.as ?_
    refine VO.k2 0 2 ?_
    refine VC.ret ?_
    refine ⟨_, _, res_run (rs := [.tmp 2]) rfl (.tmp rfl .nil), fun W_ hI => out_of (l := [m1]) hI [1] rfl rfl (mle_refl _) (fun hS_ => ?_)⟩
    dsimp only [packV]
    have hm0_ : (d0 : Dref05Disk) = d0 := by first | rfl | (simp [*]; done)
    refine ⟨?_, ?_⟩
    rotate_left
    · rw [hm0_]; exact (Ow.up w1_0 (hS_.1 _ (.head _)))
    all_goals (first | rfl | (first | exact congrArg Value.bool (on_T (by assumption)) | exact congrArg Value.bool (on_F (by assumption))))
theorem rPending_ok (W : World) {m0 : Mem} (hm : mle (m0) (wm W)) {g0 : Nat} {d0 : Dref05Disk} (h0 : Ow (.ptr Tref05Disk) m0 [.pointer (some ⟨g0, 0, none⟩)] (g0, d0)) : CallR Try.prog 50 [.pointer (some ⟨g0, 0, none⟩)] W (m0) (fun v m' => v = .int .i64 (dPending (fromR d0)) ∧ Ow (.ptr Tref05Disk) m' [.pointer (some ⟨g0, 0, none⟩)] (g0, d0)) := by
  refine CallR.ofB (n := 10) hm Try.func50 rfl rfl rfl ?_
  refine VC.rs ?_
  refine VO.as ?_
  refine VO.k2 0 2 ?_
  refine VC.seq ?_
  refine VC.rs ?_
  refine VO.mv ?_
  refine VO.call 1 rfl fnOk58 rfl rfl (fun W hW => rNone_ok W (hW.at (i := 1) rfl) h0) (fun v1 m1 hv1 => ?_)
  obtain ⟨rfl, w1_0⟩ := hv1
  refine VO.k3 0 2 4 ?_
  refine VC.cond rfl (fun hc2 => ?_) (fun hc2 => ?_)
  · -- T
    refine VC.rs ?_
    refine VO.as ?_
    refine VO.keep [1, 0] [(1, m1), (0, mout (wm W) (m0))] (by kernel_rfl) ?_
    refine VO.k3 0 2 4 ?_
    refine VC.ret ?_
    refine outR ?_
    refine ⟨_, _, res_run (rs := [.tmp 2]) rfl (.tmp rfl .nil), fun W_ hI => out_of (l := [m1]) hI [1] rfl rfl (mle_refl _) (fun hS_ => ?_)⟩
    dsimp only [packV]
    have hm0_ : (d0 : Dref05Disk) = d0 := by first | rfl | (simp [*]; done)
    refine ⟨?_, ?_⟩
    rotate_left
    · rw [hm0_]; exact (Ow.up w1_0 (hS_.1 _ (.head _)))
    all_goals (first | rfl | (first | (simp [dPending, fromR, *]; done)))
  · -- F
    refine VC.skip ?_
    refine outN ?_
    refine VC.rs ?_
    refine VO.mv ?_
    refine VO.y rfl (.nilp rfl) ?_
    refine VO.y rfl (.fa rfl tst68 rfl) ?_
    obtain ⟨q3_E, q3_A1, q3_c1, q3_A2, q3_c2, q3_A3, q3_c3, q3_A4, q3_c4, q3_A5, q3_c5, q3_n1, q3_n2, q3_n3, q3_n4, q3_n5, _, q3_S, q3_1, q3_2, q3_3, q3_4, q3_5, q3_8, q3_9⟩ := openP_ref05Disk (x0 := d0.1) (x1 := d0.2.1.1) (x2 := d0.2.1.2.1) (x3 := d0.2.1.2.2.1) (x4 := d0.2.1.2.2.2) (x5 := d0.2.2.1) (x6 := d0.2.2.2.1) (x7 := d0.2.2.2.2.1) (x8 := d0.2.2.2.2.2.1) (x9 := d0.2.2.2.2.2.2) w1_0
    have q3_r1 := Rd.room (q3_1.rd (mle_refl _))
    have q3_r2 := Rd.room (q3_2.rd (mle_refl _))
    have q3_r3 := Rd.room (q3_3.rd (mle_refl _))
    have q3_r4 := Rd.room (q3_4.rd (mle_refl _))
    have q3_r5 := Rd.room (q3_5.rd (mle_refl _))
    simp only [inK] at q3_8
    simp only [inK] at q3_9
    refine VO.inv _ (fun _ h => h.parts (i := 1) rfl q3_S [109, 104, 105, 106, 107, 108]) ?_
    refine VO.y rfl (.ld1 109 rfl tk66 rfl (cellsAt_one rfl rfl)) ?_
    refine VO.y rfl (.lenS rfl tsl66) ?_
    refine VO.as ?_
    refine VO.gather (l := [mone g0 (.cells [Value.bool d0.1, Value.slice q3_A1 (d0.2.1.1.length) (q3_c1), Value.slice q3_A2 (d0.2.1.2.1.length) (q3_c2), Value.slice q3_A3 (d0.2.1.2.2.1.length) (q3_c3), Value.slice q3_A4 (d0.2.1.2.2.2.length) (q3_c4), Value.slice q3_A5 (d0.2.2.1.length) (q3_c5), Value.bool d0.2.2.2.1, Value.bool d0.2.2.2.2.1, Value.int .i64 (d0.2.2.2.2.2.1), Value.int .i64 (d0.2.2.2.2.2.2)].toArray q3_E (0, 0)), q3_n1, q3_n2, q3_n3, q3_n4, q3_n5]) 110 [109, 104, 105, 106, 107, 108] rfl (fun hg10 => ?_)
    have ho10 : Ow (.ptr Tref05Disk) (muns [mone g0 (.cells [Value.bool d0.1, Value.slice q3_A1 (d0.2.1.1.length) (q3_c1), Value.slice q3_A2 (d0.2.1.2.1.length) (q3_c2), Value.slice q3_A3 (d0.2.1.2.2.1.length) (q3_c3), Value.slice q3_A4 (d0.2.1.2.2.2.length) (q3_c4), Value.slice q3_A5 (d0.2.2.1.length) (q3_c5), Value.bool d0.2.2.2.1, Value.bool d0.2.2.2.2.1, Value.int .i64 (d0.2.2.2.2.2.1), Value.int .i64 (d0.2.2.2.2.2.2)].toArray q3_E (0, 0)), q3_n1, q3_n2, q3_n3, q3_n4, q3_n5]) [.pointer (some ⟨g0, 0, none⟩)] (g0, d0) := (show Ow (.ptr Tref05Disk) _ _ (_, d0) from (mkP_ref05Disk d0.1 d0.2.1.1 d0.2.1.2.1 d0.2.1.2.2.1 d0.2.1.2.2.2 d0.2.2.1 d0.2.2.2.1 d0.2.2.2.2.1 d0.2.2.2.2.2.1 d0.2.2.2.2.2.2 hg10 (OwnL.ow (Ow.ownl q3_1 rfl mnil) rfl) (OwnL.ow (Ow.ownl q3_2 rfl mnil) rfl) (OwnL.ow (Ow.ownl q3_3 rfl mnil) rfl) (OwnL.ow (Ow.ownl q3_4 rfl mnil) rfl) q3_5 bdk bdk))
    refine VO.keep [110, 0] [(110, muns [mone g0 (.cells [Value.bool d0.1, Value.slice q3_A1 (d0.2.1.1.length) (q3_c1), Value.slice q3_A2 (d0.2.1.2.1.length) (q3_c2), Value.slice q3_A3 (d0.2.1.2.2.1.length) (q3_c3), Value.slice q3_A4 (d0.2.1.2.2.2.length) (q3_c4), Value.slice q3_A5 (d0.2.2.1.length) (q3_c5), Value.bool d0.2.2.2.1, Value.bool d0.2.2.2.2.1, Value.int .i64 (d0.2.2.2.2.2.1), Value.int .i64 (d0.2.2.2.2.2.2)].toArray q3_E (0, 0)), q3_n1, q3_n2, q3_n3, q3_n4, q3_n5]), (0, mout (wm W) (m0))] (by kernel_rfl) ?_
    refine VO.k3 0 2 4 ?_
    refine VC.ret ?_
    refine ⟨_, _, res_run (rs := [.tmp 2]) rfl (.tmp rfl .nil), fun W_ hI => out_of (l := [muns [mone g0 (.cells [Value.bool d0.1, Value.slice q3_A1 (d0.2.1.1.length) (q3_c1), Value.slice q3_A2 (d0.2.1.2.1.length) (q3_c2), Value.slice q3_A3 (d0.2.1.2.2.1.length) (q3_c3), Value.slice q3_A4 (d0.2.1.2.2.2.length) (q3_c4), Value.slice q3_A5 (d0.2.2.1.length) (q3_c5), Value.bool d0.2.2.2.1, Value.bool d0.2.2.2.2.1, Value.int .i64 (d0.2.2.2.2.2.1), Value.int .i64 (d0.2.2.2.2.2.2)].toArray q3_E (0, 0)), q3_n1, q3_n2, q3_n3, q3_n4, q3_n5]]) hI [110] rfl rfl (mle_refl _) (fun hS_ => ?_)⟩
    dsimp only [packV]
    have hm0_ : (d0 : Dref05Disk) = d0 := by first | rfl | (simp [*]; done)
    refine ⟨?_, ?_⟩
    rotate_left
    · rw [hm0_]; exact (Ow.up ho10 (hS_.1 _ (.head _)))
    all_goals (first | rfl | (first | (simp [dPending, fromR, *]; done)))
theorem rSteps_ok (W : World) {m0 : Mem} (hm : mle (m0) (wm W)) {g0 : Nat} {d0 : Dref05Disk} (h0 : Ow (.ptr Tref05Disk) m0 [.pointer (some ⟨g0, 0, none⟩)] (g0, d0)) : CallR Try.prog 51 [.pointer (some ⟨g0, 0, none⟩)] W (m0) (fun v m' => v = .int .i64 (dSteps (fromR d0)) ∧ Ow (.ptr Tref05Disk) m' [.pointer (some ⟨g0, 0, none⟩)] (g0, d0)) := by
  refine CallR.ofB (n := 9) hm Try.func51 rfl rfl rfl ?_
  refine VC.rs ?_
  refine VO.as ?_
  refine VO.k2 0 2 ?_
  refine VC.seq ?_
  refine VC.rs ?_
  refine VO.mv ?_
  refine VO.call 1 rfl fnOk58 rfl rfl (fun W hW => rNone_ok W (hW.at (i := 1) rfl) h0) (fun v1 m1 hv1 => ?_)
  obtain ⟨rfl, w1_0⟩ := hv1
  refine VO.k3 0 2 4 ?_
  refine VC.cond rfl (fun hc2 => ?_) (fun hc2 => ?_)
  · -- T
    refine VC.rs ?_
    refine VO.as ?_
    refine VO.keep [1, 0] [(1, m1), (0, mout (wm W) (m0))] (by kernel_rfl) ?_
    refine VO.k3 0 2 4 ?_
    refine VC.ret ?_
    refine outR ?_
    refine ⟨_, _, res_run (rs := [.tmp 2]) rfl (.tmp rfl .nil), fun W_ hI => out_of (l := [m1]) hI [1] rfl rfl (mle_refl _) (fun hS_ => ?_)⟩
    dsimp only [packV]
    have hm0_ : (d0 : Dref05Disk) = d0 := by first | rfl | (simp [*]; done)
    refine ⟨?_, ?_⟩
    rotate_left
    · rw [hm0_]; exact (Ow.up w1_0 (hS_.1 _ (.head _)))
    all_goals (first | rfl | (first | (simp [dSteps, fromR, *]; done)))
  · -- F
    refine VC.skip ?_
    refine outN ?_
    refine VC.rs ?_
    refine VO.mv ?_
    refine VO.y rfl (.nilp rfl) ?_
    refine VO.y rfl (.fa rfl tst68 rfl) ?_
    obtain ⟨q3_E, q3_A1, q3_c1, q3_A2, q3_c2, q3_A3, q3_c3, q3_A4, q3_c4, q3_A5, q3_c5, q3_n1, q3_n2, q3_n3, q3_n4, q3_n5, _, q3_S, q3_1, q3_2, q3_3, q3_4, q3_5, q3_8, q3_9⟩ := openP_ref05Disk (x0 := d0.1) (x1 := d0.2.1.1) (x2 := d0.2.1.2.1) (x3 := d0.2.1.2.2.1) (x4 := d0.2.1.2.2.2) (x5 := d0.2.2.1) (x6 := d0.2.2.2.1) (x7 := d0.2.2.2.2.1) (x8 := d0.2.2.2.2.2.1) (x9 := d0.2.2.2.2.2.2) w1_0
    have q3_r1 := Rd.room (q3_1.rd (mle_refl _))
    have q3_r2 := Rd.room (q3_2.rd (mle_refl _))
    have q3_r3 := Rd.room (q3_3.rd (mle_refl _))
    have q3_r4 := Rd.room (q3_4.rd (mle_refl _))
    have q3_r5 := Rd.room (q3_5.rd (mle_refl _))
    simp only [inK] at q3_8
    simp only [inK] at q3_9
    refine VO.inv _ (fun _ h => h.parts (i := 1) rfl q3_S [109, 104, 105, 106, 107, 108]) ?_
    refine VO.y rfl (.ld1 109 rfl tk3 rfl (cellsAt_one rfl rfl)) ?_
    refine VO.as ?_
    refine VO.gather (l := [mone g0 (.cells [Value.bool d0.1, Value.slice q3_A1 (d0.2.1.1.length) (q3_c1), Value.slice q3_A2 (d0.2.1.2.1.length) (q3_c2), Value.slice q3_A3 (d0.2.1.2.2.1.length) (q3_c3), Value.slice q3_A4 (d0.2.1.2.2.2.length) (q3_c4), Value.slice q3_A5 (d0.2.2.1.length) (q3_c5), Value.bool d0.2.2.2.1, Value.bool d0.2.2.2.2.1, Value.int .i64 (d0.2.2.2.2.2.1), Value.int .i64 (d0.2.2.2.2.2.2)].toArray q3_E (0, 0)), q3_n1, q3_n2, q3_n3, q3_n4, q3_n5]) 110 [109, 104, 105, 106, 107, 108] rfl (fun hg10 => ?_)
    have ho10 : Ow (.ptr Tref05Disk) (muns [mone g0 (.cells [Value.bool d0.1, Value.slice q3_A1 (d0.2.1.1.length) (q3_c1), Value.slice q3_A2 (d0.2.1.2.1.length) (q3_c2), Value.slice q3_A3 (d0.2.1.2.2.1.length) (q3_c3), Value.slice q3_A4 (d0.2.1.2.2.2.length) (q3_c4), Value.slice q3_A5 (d0.2.2.1.length) (q3_c5), Value.bool d0.2.2.2.1, Value.bool d0.2.2.2.2.1, Value.int .i64 (d0.2.2.2.2.2.1), Value.int .i64 (d0.2.2.2.2.2.2)].toArray q3_E (0, 0)), q3_n1, q3_n2, q3_n3, q3_n4, q3_n5]) [.pointer (some ⟨g0, 0, none⟩)] (g0, d0) := (show Ow (.ptr Tref05Disk) _ _ (_, d0) from (mkP_ref05Disk d0.1 d0.2.1.1 d0.2.1.2.1 d0.2.1.2.2.1 d0.2.1.2.2.2 d0.2.2.1 d0.2.2.2.1 d0.2.2.2.2.1 d0.2.2.2.2.2.1 d0.2.2.2.2.2.2 hg10 (OwnL.ow (Ow.ownl q3_1 rfl mnil) rfl) (OwnL.ow (Ow.ownl q3_2 rfl mnil) rfl) (OwnL.ow (Ow.ownl q3_3 rfl mnil) rfl) (OwnL.ow (Ow.ownl q3_4 rfl mnil) rfl) q3_5 bdk bdk))
    refine VO.keep [110, 0] [(110, muns [mone g0 (.cells [Value.bool d0.1, Value.slice q3_A1 (d0.2.1.1.length) (q3_c1), Value.slice q3_A2 (d0.2.1.2.1.length) (q3_c2), Value.slice q3_A3 (d0.2.1.2.2.1.length) (q3_c3), Value.slice q3_A4 (d0.2.1.2.2.2.length) (q3_c4), Value.slice q3_A5 (d0.2.2.1.length) (q3_c5), Value.bool d0.2.2.2.1, Value.bool d0.2.2.2.2.1, Value.int .i64 (d0.2.2.2.2.2.1), Value.int .i64 (d0.2.2.2.2.2.2)].toArray q3_E (0, 0)), q3_n1, q3_n2, q3_n3, q3_n4, q3_n5]), (0, mout (wm W) (m0))] (by kernel_rfl) ?_
    refine VO.k3 0 2 4 ?_
    refine VC.ret ?_
    refine ⟨_, _, res_run (rs := [.tmp 2]) rfl (.tmp rfl .nil), fun W_ hI => out_of (l := [muns [mone g0 (.cells [Value.bool d0.1, Value.slice q3_A1 (d0.2.1.1.length) (q3_c1), Value.slice q3_A2 (d0.2.1.2.1.length) (q3_c2), Value.slice q3_A3 (d0.2.1.2.2.1.length) (q3_c3), Value.slice q3_A4 (d0.2.1.2.2.2.length) (q3_c4), Value.slice q3_A5 (d0.2.2.1.length) (q3_c5), Value.bool d0.2.2.2.1, Value.bool d0.2.2.2.2.1, Value.int .i64 (d0.2.2.2.2.2.1), Value.int .i64 (d0.2.2.2.2.2.2)].toArray q3_E (0, 0)), q3_n1, q3_n2, q3_n3, q3_n4, q3_n5]]) hI [110] rfl rfl (mle_refl _) (fun hS_ => ?_)⟩
    dsimp only [packV]
    have hm0_ : (d0 : Dref05Disk) = d0 := by first | rfl | (simp [*]; done)
    refine ⟨?_, ?_⟩
    rotate_left
    · rw [hm0_]; exact (Ow.up ho10 (hS_.1 _ (.head _)))
    all_goals (first | rfl | (first | (simp [dSteps, fromR, *]; done)))
theorem fin0_rDurable_ok {P : Prop} (h : P := by first | (rw [durable_go (d := fromR d0) (by assumption) (Decidable.not_not.2 (show inF d1 from ⟨by omega, by omega⟩)), getF0 ‹d1 = (0 : Int)›] <;> rfl) | (rw [durable_go (d := fromR d0) (by assumption) (Decidable.not_not.2 (show inF d1 from ⟨by omega, by omega⟩)), getF1 ‹d1 = (1 : Int)›] <;> rfl) | (rw [durable_go (d := fromR d0) (by assumption) (Decidable.not_not.2 (show inF d1 from ⟨by omega, by omega⟩)), getF2 ‹d1 = (2 : Int)›] <;> rfl) | (rw [durable_go (d := fromR d0) (by assumption) (Decidable.not_not.2 (show inF d1 from ⟨by omega, by omega⟩)), getF3 ‹d1 = (3 : Int)›] <;> rfl) | exact if_pos (.inl (by assumption)) | exact if_pos (.inr (fun q_ : inF d1 => by obtain ⟨q1_, q2_⟩ := q_; omega))) : P := h
theorem fin1_rDurable_ok {P : Prop} (h : P := by first | omega | (simp only [List.length_append, List.length_nil, List.length_cons, List.length_take, List.length_drop] at *; omega) | (simp only [wD, sizeQ, fromR, List.length_nil] at *; omega)) : P := h
theorem rDurable_ok (W : World) {m0 : Mem} (hm : mle (m0) (wm W)) {g0 : Nat} {d0 : Dref05Disk} (h0 : Ow (.ptr Tref05Disk) m0 [.pointer (some ⟨g0, 0, none⟩)] (g0, d0)) (d1 : Int) (h1 : inK .i64 d1) (e0 : wD (fromR d0) ≤ 1000000000000) : CallR Try.prog 53 [.pointer (some ⟨g0, 0, none⟩), .int .i64 d1] W (m0) (fun v m' => ∃ (s0 : Value), ∃ (p0 : Mem), ∃ (p1 : Mem), v = s0 ∧ Seps m' [p0, p1] ∧ Ow (.sl .byte) p0 [s0] (dDurable (fromR d0) d1) ∧ Ow (.ptr Tref05Disk) p1 [.pointer (some ⟨g0, 0, none⟩)] (g0, d0)) := by
  have h1' := h1; simp only [inK] at h1'
  refine CallR.ofB (n := 25) hm Try.func53 rfl rfl rfl ?_
  refine VC.rs ?_
  refine VO.as ?_
  refine VO.k3 0 1 4 ?_
  refine VC.rs ?_
  refine VO.as ?_
  refine VO.k4 0 1 4 5 ?_
  refine VC.seq ?_
  refine VC.rs ?_
  refine VO.mv ?_
  refine VO.call 1 rfl fnOk58 rfl rfl (fun W hW => rNone_ok W (hW.at (i := 1) rfl) h0) (fun v1 m1 hv1 => ?_)
  obtain ⟨rfl, w1_0⟩ := hv1
  refine VO.mv ?_
  refine VO.dec (t := 8) rfl (fun hc2 => ?_) (fun hc2 => ?_)
  · -- T
    refine VO.gN ?_
    refine VO.gN ?_
    refine VO.y rfl (.pT rfl rfl) ?_
    refine VO.mv ?_
    refine VO.gN ?_
    refine VO.gN ?_
    refine VO.y rfl (.pT rfl rfl) ?_
    refine VO.keep [1, 0] [(1, m1), (0, mout (wm W) (m0))] (by kernel_rfl) ?_
    refine VO.k5 0 1 4 5 15 ?_
    refine VC.condT rfl ?_
    refine VC.rs ?_
    refine VO.mv ?_
    refine VO.as ?_
    refine VO.k5 0 1 4 5 15 ?_
    refine VC.ret ?_
    refine outR ?_
    refine ⟨_, _, res_run (rs := [.tmp 4]) rfl (.tmp rfl .nil), fun W_ hI => out_of (l := [m1]) hI [1] rfl rfl (mle_refl _) (fun hS_ => ?_)⟩
    dsimp only [packV]
    have he0 : (dDurable (fromR d0) d1 : Ty.Den (.sl .byte)) = [] := by first | rfl | (exact fin0_rDurable_ok)
    have hm0_ : (d0 : Dref05Disk) = d0 := by first | rfl | (exact fin0_rDurable_ok)
    refine ⟨Value.slice none (0) (0), muns [], muns [m1], ?_, ?_, ?_, ?_⟩
    rotate_left
    · exact Seps.grp (ls := [[], [m1]]) hS_
    · rw [he0]; exact (Ow.nil _ _)
    · rw [hm0_]; exact (Ow.up w1_0 ((Seps.self hS_ (List.Sublist.cons_cons _ List.Sublist.slnil)).1 _ (.head _)))
    all_goals (first | rfl | (simp [*]; done))
  · -- F
    refine VO.gy rfl ⟨_, rfl, rfl⟩ (.mv rfl) ?_
    refine VO.gy rfl ⟨_, rfl, rfl⟩ (.lss rfl rfl) ?_
    refine VO.y rfl (.pF rfl rfl) ?_
    refine VO.mv ?_
    refine VO.dec (t := 12) rfl (fun hc3 => ?_) (fun hc3 => ?_)
    · -- FT
      refine VO.gN ?_
      refine VO.gN ?_
      refine VO.y rfl (.pT rfl rfl) ?_
      refine VO.keep [1, 0] [(1, m1), (0, mout (wm W) (m0))] (by kernel_rfl) ?_
      refine VO.k5 0 1 4 5 15 ?_
      refine VC.condT rfl ?_
      refine VC.rs ?_
      refine VO.mv ?_
      refine VO.as ?_
      refine VO.k5 0 1 4 5 15 ?_
      refine VC.ret ?_
      refine outR ?_
      refine ⟨_, _, res_run (rs := [.tmp 4]) rfl (.tmp rfl .nil), fun W_ hI => out_of (l := [m1]) hI [1] rfl rfl (mle_refl _) (fun hS_ => ?_)⟩
      dsimp only [packV]
      have he0 : (dDurable (fromR d0) d1 : Ty.Den (.sl .byte)) = [] := by first | rfl | (exact fin0_rDurable_ok)
      have hm0_ : (d0 : Dref05Disk) = d0 := by first | rfl | (exact fin0_rDurable_ok)
      refine ⟨Value.slice none (0) (0), muns [], muns [m1], ?_, ?_, ?_, ?_⟩
      rotate_left
      · exact Seps.grp (ls := [[], [m1]]) hS_
      · rw [he0]; exact (Ow.nil _ _)
      · rw [hm0_]; exact (Ow.up w1_0 ((Seps.self hS_ (List.Sublist.cons_cons _ List.Sublist.slnil)).1 _ (.head _)))
      all_goals (first | rfl | (simp [*]; done))
    · -- FF
      refine VO.gy rfl ⟨_, rfl, rfl⟩ (.mv rfl) ?_
      refine VO.gy rfl ⟨_, rfl, rfl⟩ (.geq rfl rfl) ?_
      refine VO.y rfl (.pF rfl rfl) ?_
      refine VO.keep [1, 0] [(1, m1), (0, mout (wm W) (m0))] (by kernel_rfl) ?_
      refine VO.k5 0 1 4 5 15 ?_
      refine VC.cond rfl (fun hc4 => ?_) (fun hc4 => ?_)
      · -- FFT
        refine VC.rs ?_
        refine VO.mv ?_
        refine VO.as ?_
        refine VO.k5 0 1 4 5 15 ?_
        refine VC.ret ?_
        refine outR ?_
        refine ⟨_, _, res_run (rs := [.tmp 4]) rfl (.tmp rfl .nil), fun W_ hI => out_of (l := [m1]) hI [1] rfl rfl (mle_refl _) (fun hS_ => ?_)⟩
        dsimp only [packV]
        have he0 : (dDurable (fromR d0) d1 : Ty.Den (.sl .byte)) = [] := by first | rfl | (exact fin0_rDurable_ok)
        have hm0_ : (d0 : Dref05Disk) = d0 := by first | rfl | (exact fin0_rDurable_ok)
        refine ⟨Value.slice none (0) (0), muns [], muns [m1], ?_, ?_, ?_, ?_⟩
        rotate_left
        · exact Seps.grp (ls := [[], [m1]]) hS_
        · rw [he0]; exact (Ow.nil _ _)
        · rw [hm0_]; exact (Ow.up w1_0 ((Seps.self hS_ (List.Sublist.cons_cons _ List.Sublist.slnil)).1 _ (.head _)))
        all_goals (first | rfl | (simp [*]; done))
      · -- FFF
        refine VC.skip ?_
        refine outN ?_
        refine VC.rs ?_
        refine VO.mv ?_
        refine VO.mv ?_
        refine VO.mv ?_
        refine VO.y rfl (.nilp rfl) ?_
        refine VO.y rfl (.fa rfl tst68 rfl) ?_
        rcases (show d1 = (0 : Int) ∨ d1 = (1 : Int) ∨ d1 = (2 : Int) ∨ d1 = (3 : Int) from by exact fin1_rDurable_ok) with hi5 | hi5 | hi5 | hi5
        · -- FFF0
          refine VO.y rfl (.ixa (i := 0) (o := 1) rfl rfl tar28 hi5 rfl rfl) ?_
          obtain ⟨q6_E, q6_A1, q6_c1, q6_A2, q6_c2, q6_A3, q6_c3, q6_A4, q6_c4, q6_A5, q6_c5, q6_n1, q6_n2, q6_n3, q6_n4, q6_n5, _, q6_S, q6_1, q6_2, q6_3, q6_4, q6_5, q6_8, q6_9⟩ := openP_ref05Disk (x0 := d0.1) (x1 := d0.2.1.1) (x2 := d0.2.1.2.1) (x3 := d0.2.1.2.2.1) (x4 := d0.2.1.2.2.2) (x5 := d0.2.2.1) (x6 := d0.2.2.2.1) (x7 := d0.2.2.2.2.1) (x8 := d0.2.2.2.2.2.1) (x9 := d0.2.2.2.2.2.2) w1_0
          have q6_r1 := Rd.room (q6_1.rd (mle_refl _))
          have q6_r2 := Rd.room (q6_2.rd (mle_refl _))
          have q6_r3 := Rd.room (q6_3.rd (mle_refl _))
          have q6_r4 := Rd.room (q6_4.rd (mle_refl _))
          have q6_r5 := Rd.room (q6_5.rd (mle_refl _))
          simp only [inK] at q6_8
          simp only [inK] at q6_9
          refine VO.inv _ (fun _ h => h.parts (i := 1) rfl q6_S [112, 107, 108, 109, 110, 111]) ?_
          refine VO.y rfl (.ld1 112 rfl tk27 rfl (cellsAt_one rfl rfl)) ?_
          refine VO.inv _ (fun _ h => h.nilc 114) ?_
          obtain ⟨mo13, cs13, hM13, hA13, hC13⟩ := (OwnL.nil .byte mnil mnil)
          obtain ⟨all13, hS13, hR13⟩ := Rd.srcI (P := Try.prog) ((OwnL.rd (Ow.ownl q6_1 rfl mnil) (mle_refl _) (mle_nil _))) Try.underlying27
          refine VO.app 114 rfl rfl rfl tsl27 tz5 rfl rfl hM13 hA13 (hS13 _ 107 rfl) hR13.nice (by simp only [maxLen]; (exact fin1_rDurable_ok)) (by exact fin1_rDurable_ok) (by decide) (fun v13 m13 hN13 => ?_)
          have ho13 : OwnL .byte m13 mnil v13 (d0.2.1.1) := OwnL.more hC13 hN13 (All2c.mono hR13 fun _ _ h => Rd.flat rfl h _)
          obtain ⟨A13, c13, rfl, l13, k13⟩ := ho13.slice
          simp only [maxLen] at k13
          refine VO.as ?_
          refine VO.gather (l := [mone g0 (.cells [Value.bool d0.1, Value.slice q6_A1 (d0.2.1.1.length) (q6_c1), Value.slice q6_A2 (d0.2.1.2.1.length) (q6_c2), Value.slice q6_A3 (d0.2.1.2.2.1.length) (q6_c3), Value.slice q6_A4 (d0.2.1.2.2.2.length) (q6_c4), Value.slice q6_A5 (d0.2.2.1.length) (q6_c5), Value.bool d0.2.2.2.1, Value.bool d0.2.2.2.2.1, Value.int .i64 (d0.2.2.2.2.2.1), Value.int .i64 (d0.2.2.2.2.2.2)].toArray q6_E (0, 0)), q6_n1, q6_n2, q6_n3, q6_n4, q6_n5]) 115 [112, 107, 108, 109, 110, 111] rfl (fun hg15 => ?_)
          have ho15 : Ow (.ptr Tref05Disk) (muns [mone g0 (.cells [Value.bool d0.1, Value.slice q6_A1 (d0.2.1.1.length) (q6_c1), Value.slice q6_A2 (d0.2.1.2.1.length) (q6_c2), Value.slice q6_A3 (d0.2.1.2.2.1.length) (q6_c3), Value.slice q6_A4 (d0.2.1.2.2.2.length) (q6_c4), Value.slice q6_A5 (d0.2.2.1.length) (q6_c5), Value.bool d0.2.2.2.1, Value.bool d0.2.2.2.2.1, Value.int .i64 (d0.2.2.2.2.2.1), Value.int .i64 (d0.2.2.2.2.2.2)].toArray q6_E (0, 0)), q6_n1, q6_n2, q6_n3, q6_n4, q6_n5]) [.pointer (some ⟨g0, 0, none⟩)] (g0, d0) := (show Ow (.ptr Tref05Disk) _ _ (_, d0) from (mkP_ref05Disk d0.1 d0.2.1.1 d0.2.1.2.1 d0.2.1.2.2.1 d0.2.1.2.2.2 d0.2.2.1 d0.2.2.2.1 d0.2.2.2.2.1 d0.2.2.2.2.2.1 d0.2.2.2.2.2.2 hg15 (OwnL.ow (Ow.ownl q6_1 rfl mnil) rfl) (OwnL.ow (Ow.ownl q6_2 rfl mnil) rfl) (OwnL.ow (Ow.ownl q6_3 rfl mnil) rfl) (OwnL.ow (Ow.ownl q6_4 rfl mnil) rfl) q6_5 (by simp only [inK]; (exact fin1_rDurable_ok)) (by simp only [inK]; (exact fin1_rDurable_ok))))
          refine VO.k5 0 1 4 5 15 ?_
          refine VC.ret ?_
          refine ⟨_, _, res_run (rs := [.tmp 4]) rfl (.tmp rfl .nil), fun W_ hI => out_of (l := [m13, muns [mone g0 (.cells [Value.bool d0.1, Value.slice q6_A1 (d0.2.1.1.length) (q6_c1), Value.slice q6_A2 (d0.2.1.2.1.length) (q6_c2), Value.slice q6_A3 (d0.2.1.2.2.1.length) (q6_c3), Value.slice q6_A4 (d0.2.1.2.2.2.length) (q6_c4), Value.slice q6_A5 (d0.2.2.1.length) (q6_c5), Value.bool d0.2.2.2.1, Value.bool d0.2.2.2.2.1, Value.int .i64 (d0.2.2.2.2.2.1), Value.int .i64 (d0.2.2.2.2.2.2)].toArray q6_E (0, 0)), q6_n1, q6_n2, q6_n3, q6_n4, q6_n5]]) hI [114, 115] rfl rfl (mle_refl _) (fun hS_ => ?_)⟩
          dsimp only [packV]
          have he0 : (dDurable (fromR d0) d1 : Ty.Den (.sl .byte)) = d0.2.1.1 := by first | rfl | (exact fin0_rDurable_ok)
          have hm0_ : (d0 : Dref05Disk) = d0 := by first | rfl | (exact fin0_rDurable_ok)
          refine ⟨Value.slice A13 ((d0.2.1.1).length) (c13), muns [m13], muns [muns [mone g0 (.cells [Value.bool d0.1, Value.slice q6_A1 (d0.2.1.1.length) (q6_c1), Value.slice q6_A2 (d0.2.1.2.1.length) (q6_c2), Value.slice q6_A3 (d0.2.1.2.2.1.length) (q6_c3), Value.slice q6_A4 (d0.2.1.2.2.2.length) (q6_c4), Value.slice q6_A5 (d0.2.2.1.length) (q6_c5), Value.bool d0.2.2.2.1, Value.bool d0.2.2.2.2.1, Value.int .i64 (d0.2.2.2.2.2.1), Value.int .i64 (d0.2.2.2.2.2.2)].toArray q6_E (0, 0)), q6_n1, q6_n2, q6_n3, q6_n4, q6_n5]], ?_, ?_, ?_, ?_⟩
          rotate_left
          · exact Seps.grp (ls := [[m13], [muns [mone g0 (.cells [Value.bool d0.1, Value.slice q6_A1 (d0.2.1.1.length) (q6_c1), Value.slice q6_A2 (d0.2.1.2.1.length) (q6_c2), Value.slice q6_A3 (d0.2.1.2.2.1.length) (q6_c3), Value.slice q6_A4 (d0.2.1.2.2.2.length) (q6_c4), Value.slice q6_A5 (d0.2.2.1.length) (q6_c5), Value.bool d0.2.2.2.1, Value.bool d0.2.2.2.2.1, Value.int .i64 (d0.2.2.2.2.2.1), Value.int .i64 (d0.2.2.2.2.2.2)].toArray q6_E (0, 0)), q6_n1, q6_n2, q6_n3, q6_n4, q6_n5]]]) hS_
          · rw [he0]; exact (Ow.up (OwnL.ow ho13 rfl) ((Seps.self hS_ (List.Sublist.cons_cons _ (List.Sublist.cons _ List.Sublist.slnil))).1 _ (.head _)))
          · rw [hm0_]; exact (Ow.up ho15 ((Seps.self hS_ (List.Sublist.cons _ (List.Sublist.cons_cons _ List.Sublist.slnil))).1 _ (.head _)))
          all_goals (first | rfl | (simp [*]; done))
        · -- FFF1
          refine VO.y rfl (.ixa (i := 1) (o := 2) rfl rfl tar28 hi5 rfl rfl) ?_
          obtain ⟨q16_E, q16_A1, q16_c1, q16_A2, q16_c2, q16_A3, q16_c3, q16_A4, q16_c4, q16_A5, q16_c5, q16_n1, q16_n2, q16_n3, q16_n4, q16_n5, _, q16_S, q16_1, q16_2, q16_3, q16_4, q16_5, q16_8, q16_9⟩ := openP_ref05Disk (x0 := d0.1) (x1 := d0.2.1.1) (x2 := d0.2.1.2.1) (x3 := d0.2.1.2.2.1) (x4 := d0.2.1.2.2.2) (x5 := d0.2.2.1) (x6 := d0.2.2.2.1) (x7 := d0.2.2.2.2.1) (x8 := d0.2.2.2.2.2.1) (x9 := d0.2.2.2.2.2.2) w1_0
          have q16_r1 := Rd.room (q16_1.rd (mle_refl _))
          have q16_r2 := Rd.room (q16_2.rd (mle_refl _))
          have q16_r3 := Rd.room (q16_3.rd (mle_refl _))
          have q16_r4 := Rd.room (q16_4.rd (mle_refl _))
          have q16_r5 := Rd.room (q16_5.rd (mle_refl _))
          simp only [inK] at q16_8
          simp only [inK] at q16_9
          refine VO.inv _ (fun _ h => h.parts (i := 1) rfl q16_S [122, 117, 118, 119, 120, 121]) ?_
          refine VO.y rfl (.ld1 122 rfl tk27 rfl (cellsAt_one rfl rfl)) ?_
          refine VO.inv _ (fun _ h => h.nilc 124) ?_
          obtain ⟨mo23, cs23, hM23, hA23, hC23⟩ := (OwnL.nil .byte mnil mnil)
          obtain ⟨all23, hS23, hR23⟩ := Rd.srcI (P := Try.prog) ((OwnL.rd (Ow.ownl q16_2 rfl mnil) (mle_refl _) (mle_nil _))) Try.underlying27
          refine VO.app 124 rfl rfl rfl tsl27 tz5 rfl rfl hM23 hA23 (hS23 _ 118 rfl) hR23.nice (by simp only [maxLen]; (exact fin1_rDurable_ok)) (by exact fin1_rDurable_ok) (by decide) (fun v23 m23 hN23 => ?_)
          have ho23 : OwnL .byte m23 mnil v23 (d0.2.1.2.1) := OwnL.more hC23 hN23 (All2c.mono hR23 fun _ _ h => Rd.flat rfl h _)
          obtain ⟨A23, c23, rfl, l23, k23⟩ := ho23.slice
          simp only [maxLen] at k23
          refine VO.as ?_
          refine VO.gather (l := [mone g0 (.cells [Value.bool d0.1, Value.slice q16_A1 (d0.2.1.1.length) (q16_c1), Value.slice q16_A2 (d0.2.1.2.1.length) (q16_c2), Value.slice q16_A3 (d0.2.1.2.2.1.length) (q16_c3), Value.slice q16_A4 (d0.2.1.2.2.2.length) (q16_c4), Value.slice q16_A5 (d0.2.2.1.length) (q16_c5), Value.bool d0.2.2.2.1, Value.bool d0.2.2.2.2.1, Value.int .i64 (d0.2.2.2.2.2.1), Value.int .i64 (d0.2.2.2.2.2.2)].toArray q16_E (0, 0)), q16_n1, q16_n2, q16_n3, q16_n4, q16_n5]) 125 [122, 117, 118, 119, 120, 121] rfl (fun hg25 => ?_)
          have ho25 : Ow (.ptr Tref05Disk) (muns [mone g0 (.cells [Value.bool d0.1, Value.slice q16_A1 (d0.2.1.1.length) (q16_c1), Value.slice q16_A2 (d0.2.1.2.1.length) (q16_c2), Value.slice q16_A3 (d0.2.1.2.2.1.length) (q16_c3), Value.slice q16_A4 (d0.2.1.2.2.2.length) (q16_c4), Value.slice q16_A5 (d0.2.2.1.length) (q16_c5), Value.bool d0.2.2.2.1, Value.bool d0.2.2.2.2.1, Value.int .i64 (d0.2.2.2.2.2.1), Value.int .i64 (d0.2.2.2.2.2.2)].toArray q16_E (0, 0)), q16_n1, q16_n2, q16_n3, q16_n4, q16_n5]) [.pointer (some ⟨g0, 0, none⟩)] (g0, d0) := (show Ow (.ptr Tref05Disk) _ _ (_, d0) from (mkP_ref05Disk d0.1 d0.2.1.1 d0.2.1.2.1 d0.2.1.2.2.1 d0.2.1.2.2.2 d0.2.2.1 d0.2.2.2.1 d0.2.2.2.2.1 d0.2.2.2.2.2.1 d0.2.2.2.2.2.2 hg25 (OwnL.ow (Ow.ownl q16_1 rfl mnil) rfl) (OwnL.ow (Ow.ownl q16_2 rfl mnil) rfl) (OwnL.ow (Ow.ownl q16_3 rfl mnil) rfl) (OwnL.ow (Ow.ownl q16_4 rfl mnil) rfl) q16_5 (by simp only [inK]; (exact fin1_rDurable_ok)) (by simp only [inK]; (exact fin1_rDurable_ok))))
          refine VO.k5 0 1 4 5 15 ?_
          refine VC.ret ?_
          refine ⟨_, _, res_run (rs := [.tmp 4]) rfl (.tmp rfl .nil), fun W_ hI => out_of (l := [m23, muns [mone g0 (.cells [Value.bool d0.1, Value.slice q16_A1 (d0.2.1.1.length) (q16_c1), Value.slice q16_A2 (d0.2.1.2.1.length) (q16_c2), Value.slice q16_A3 (d0.2.1.2.2.1.length) (q16_c3), Value.slice q16_A4 (d0.2.1.2.2.2.length) (q16_c4), Value.slice q16_A5 (d0.2.2.1.length) (q16_c5), Value.bool d0.2.2.2.1, Value.bool d0.2.2.2.2.1, Value.int .i64 (d0.2.2.2.2.2.1), Value.int .i64 (d0.2.2.2.2.2.2)].toArray q16_E (0, 0)), q16_n1, q16_n2, q16_n3, q16_n4, q16_n5]]) hI [124, 125] rfl rfl (mle_refl _) (fun hS_ => ?_)⟩
          dsimp only [packV]
          have he0 : (dDurable (fromR d0) d1 : Ty.Den (.sl .byte)) = d0.2.1.2.1 := by first | rfl | (exact fin0_rDurable_ok)
          have hm0_ : (d0 : Dref05Disk) = d0 := by first | rfl | (exact fin0_rDurable_ok)
          refine ⟨Value.slice A23 ((d0.2.1.2.1).length) (c23), muns [m23], muns [muns [mone g0 (.cells [Value.bool d0.1, Value.slice q16_A1 (d0.2.1.1.length) (q16_c1), Value.slice q16_A2 (d0.2.1.2.1.length) (q16_c2), Value.slice q16_A3 (d0.2.1.2.2.1.length) (q16_c3), Value.slice q16_A4 (d0.2.1.2.2.2.length) (q16_c4), Value.slice q16_A5 (d0.2.2.1.length) (q16_c5), Value.bool d0.2.2.2.1, Value.bool d0.2.2.2.2.1, Value.int .i64 (d0.2.2.2.2.2.1), Value.int .i64 (d0.2.2.2.2.2.2)].toArray q16_E (0, 0)), q16_n1, q16_n2, q16_n3, q16_n4, q16_n5]], ?_, ?_, ?_, ?_⟩
          rotate_left
          · exact Seps.grp (ls := [[m23], [muns [mone g0 (.cells [Value.bool d0.1, Value.slice q16_A1 (d0.2.1.1.length) (q16_c1), Value.slice q16_A2 (d0.2.1.2.1.length) (q16_c2), Value.slice q16_A3 (d0.2.1.2.2.1.length) (q16_c3), Value.slice q16_A4 (d0.2.1.2.2.2.length) (q16_c4), Value.slice q16_A5 (d0.2.2.1.length) (q16_c5), Value.bool d0.2.2.2.1, Value.bool d0.2.2.2.2.1, Value.int .i64 (d0.2.2.2.2.2.1), Value.int .i64 (d0.2.2.2.2.2.2)].toArray q16_E (0, 0)), q16_n1, q16_n2, q16_n3, q16_n4, q16_n5]]]) hS_
          · rw [he0]; exact (Ow.up (OwnL.ow ho23 rfl) ((Seps.self hS_ (List.Sublist.cons_cons _ (List.Sublist.cons _ List.Sublist.slnil))).1 _ (.head _)))
          · rw [hm0_]; exact (Ow.up ho25 ((Seps.self hS_ (List.Sublist.cons _ (List.Sublist.cons_cons _ List.Sublist.slnil))).1 _ (.head _)))
          all_goals (first | rfl | (simp [*]; done))
        · -- FFF2
          refine VO.y rfl (.ixa (i := 2) (o := 3) rfl rfl tar28 hi5 rfl rfl) ?_
          obtain ⟨q26_E, q26_A1, q26_c1, q26_A2, q26_c2, q26_A3, q26_c3, q26_A4, q26_c4, q26_A5, q26_c5, q26_n1, q26_n2, q26_n3, q26_n4, q26_n5, _, q26_S, q26_1, q26_2, q26_3, q26_4, q26_5, q26_8, q26_9⟩ := openP_ref05Disk (x0 := d0.1) (x1 := d0.2.1.1) (x2 := d0.2.1.2.1) (x3 := d0.2.1.2.2.1) (x4 := d0.2.1.2.2.2) (x5 := d0.2.2.1) (x6 := d0.2.2.2.1) (x7 := d0.2.2.2.2.1) (x8 := d0.2.2.2.2.2.1) (x9 := d0.2.2.2.2.2.2) w1_0
          have q26_r1 := Rd.room (q26_1.rd (mle_refl _))
          have q26_r2 := Rd.room (q26_2.rd (mle_refl _))
          have q26_r3 := Rd.room (q26_3.rd (mle_refl _))
          have q26_r4 := Rd.room (q26_4.rd (mle_refl _))
          have q26_r5 := Rd.room (q26_5.rd (mle_refl _))
          simp only [inK] at q26_8
          simp only [inK] at q26_9
          refine VO.inv _ (fun _ h => h.parts (i := 1) rfl q26_S [132, 127, 128, 129, 130, 131]) ?_
          refine VO.y rfl (.ld1 132 rfl tk27 rfl (cellsAt_one rfl rfl)) ?_
          refine VO.inv _ (fun _ h => h.nilc 134) ?_
          obtain ⟨mo33, cs33, hM33, hA33, hC33⟩ := (OwnL.nil .byte mnil mnil)
          obtain ⟨all33, hS33, hR33⟩ := Rd.srcI (P := Try.prog) ((OwnL.rd (Ow.ownl q26_3 rfl mnil) (mle_refl _) (mle_nil _))) Try.underlying27
          refine VO.app 134 rfl rfl rfl tsl27 tz5 rfl rfl hM33 hA33 (hS33 _ 129 rfl) hR33.nice (by simp only [maxLen]; (exact fin1_rDurable_ok)) (by exact fin1_rDurable_ok) (by decide) (fun v33 m33 hN33 => ?_)
          have ho33 : OwnL .byte m33 mnil v33 (d0.2.1.2.2.1) := OwnL.more hC33 hN33 (All2c.mono hR33 fun _ _ h => Rd.flat rfl h _)
          obtain ⟨A33, c33, rfl, l33, k33⟩ := ho33.slice
          simp only [maxLen] at k33
          refine VO.as ?_
          refine VO.gather (l := [mone g0 (.cells [Value.bool d0.1, Value.slice q26_A1 (d0.2.1.1.length) (q26_c1), Value.slice q26_A2 (d0.2.1.2.1.length) (q26_c2), Value.slice q26_A3 (d0.2.1.2.2.1.length) (q26_c3), Value.slice q26_A4 (d0.2.1.2.2.2.length) (q26_c4), Value.slice q26_A5 (d0.2.2.1.length) (q26_c5), Value.bool d0.2.2.2.1, Value.bool d0.2.2.2.2.1, Value.int .i64 (d0.2.2.2.2.2.1), Value.int .i64 (d0.2.2.2.2.2.2)].toArray q26_E (0, 0)), q26_n1, q26_n2, q26_n3, q26_n4, q26_n5]) 135 [132, 127, 128, 129, 130, 131] rfl (fun hg35 => ?_)
          have ho35 : Ow (.ptr Tref05Disk) (muns [mone g0 (.cells [Value.bool d0.1, Value.slice q26_A1 (d0.2.1.1.length) (q26_c1), Value.slice q26_A2 (d0.2.1.2.1.length) (q26_c2), Value.slice q26_A3 (d0.2.1.2.2.1.length) (q26_c3), Value.slice q26_A4 (d0.2.1.2.2.2.length) (q26_c4), Value.slice q26_A5 (d0.2.2.1.length) (q26_c5), Value.bool d0.2.2.2.1, Value.bool d0.2.2.2.2.1, Value.int .i64 (d0.2.2.2.2.2.1), Value.int .i64 (d0.2.2.2.2.2.2)].toArray q26_E (0, 0)), q26_n1, q26_n2, q26_n3, q26_n4, q26_n5]) [.pointer (some ⟨g0, 0, none⟩)] (g0, d0) := (show Ow (.ptr Tref05Disk) _ _ (_, d0) from (mkP_ref05Disk d0.1 d0.2.1.1 d0.2.1.2.1 d0.2.1.2.2.1 d0.2.1.2.2.2 d0.2.2.1 d0.2.2.2.1 d0.2.2.2.2.1 d0.2.2.2.2.2.1 d0.2.2.2.2.2.2 hg35 (OwnL.ow (Ow.ownl q26_1 rfl mnil) rfl) (OwnL.ow (Ow.ownl q26_2 rfl mnil) rfl) (OwnL.ow (Ow.ownl q26_3 rfl mnil) rfl) (OwnL.ow (Ow.ownl q26_4 rfl mnil) rfl) q26_5 (by simp only [inK]; (exact fin1_rDurable_ok)) (by simp only [inK]; (exact fin1_rDurable_ok))))
          refine VO.k5 0 1 4 5 15 ?_
          refine VC.ret ?_
          refine ⟨_, _, res_run (rs := [.tmp 4]) rfl (.tmp rfl .nil), fun W_ hI => out_of (l := [m33, muns [mone g0 (.cells [Value.bool d0.1, Value.slice q26_A1 (d0.2.1.1.length) (q26_c1), Value.slice q26_A2 (d0.2.1.2.1.length) (q26_c2), Value.slice q26_A3 (d0.2.1.2.2.1.length) (q26_c3), Value.slice q26_A4 (d0.2.1.2.2.2.length) (q26_c4), Value.slice q26_A5 (d0.2.2.1.length) (q26_c5), Value.bool d0.2.2.2.1, Value.bool d0.2.2.2.2.1, Value.int .i64 (d0.2.2.2.2.2.1), Value.int .i64 (d0.2.2.2.2.2.2)].toArray q26_E (0, 0)), q26_n1, q26_n2, q26_n3, q26_n4, q26_n5]]) hI [134, 135] rfl rfl (mle_refl _) (fun hS_ => ?_)⟩
          dsimp only [packV]
          have he0 : (dDurable (fromR d0) d1 : Ty.Den (.sl .byte)) = d0.2.1.2.2.1 := by first | rfl | (exact fin0_rDurable_ok)
          have hm0_ : (d0 : Dref05Disk) = d0 := by first | rfl | (exact fin0_rDurable_ok)
          refine ⟨Value.slice A33 ((d0.2.1.2.2.1).length) (c33), muns [m33], muns [muns [mone g0 (.cells [Value.bool d0.1, Value.slice q26_A1 (d0.2.1.1.length) (q26_c1), Value.slice q26_A2 (d0.2.1.2.1.length) (q26_c2), Value.slice q26_A3 (d0.2.1.2.2.1.length) (q26_c3), Value.slice q26_A4 (d0.2.1.2.2.2.length) (q26_c4), Value.slice q26_A5 (d0.2.2.1.length) (q26_c5), Value.bool d0.2.2.2.1, Value.bool d0.2.2.2.2.1, Value.int .i64 (d0.2.2.2.2.2.1), Value.int .i64 (d0.2.2.2.2.2.2)].toArray q26_E (0, 0)), q26_n1, q26_n2, q26_n3, q26_n4, q26_n5]], ?_, ?_, ?_, ?_⟩
          rotate_left
          · exact Seps.grp (ls := [[m33], [muns [mone g0 (.cells [Value.bool d0.1, Value.slice q26_A1 (d0.2.1.1.length) (q26_c1), Value.slice q26_A2 (d0.2.1.2.1.length) (q26_c2), Value.slice q26_A3 (d0.2.1.2.2.1.length) (q26_c3), Value.slice q26_A4 (d0.2.1.2.2.2.length) (q26_c4), Value.slice q26_A5 (d0.2.2.1.length) (q26_c5), Value.bool d0.2.2.2.1, Value.bool d0.2.2.2.2.1, Value.int .i64 (d0.2.2.2.2.2.1), Value.int .i64 (d0.2.2.2.2.2.2)].toArray q26_E (0, 0)), q26_n1, q26_n2, q26_n3, q26_n4, q26_n5]]]) hS_
          · rw [he0]; exact (Ow.up (OwnL.ow ho33 rfl) ((Seps.self hS_ (List.Sublist.cons_cons _ (List.Sublist.cons _ List.Sublist.slnil))).1 _ (.head _)))
          · rw [hm0_]; exact (Ow.up ho35 ((Seps.self hS_ (List.Sublist.cons _ (List.Sublist.cons_cons _ List.Sublist.slnil))).1 _ (.head _)))
          all_goals (first | rfl | (simp [*]; done))
        · -- FFF3
          refine VO.y rfl (.ixa (i := 3) (o := 4) rfl rfl tar28 hi5 rfl rfl) ?_
          obtain ⟨q36_E, q36_A1, q36_c1, q36_A2, q36_c2, q36_A3, q36_c3, q36_A4, q36_c4, q36_A5, q36_c5, q36_n1, q36_n2, q36_n3, q36_n4, q36_n5, _, q36_S, q36_1, q36_2, q36_3, q36_4, q36_5, q36_8, q36_9⟩ := openP_ref05Disk (x0 := d0.1) (x1 := d0.2.1.1) (x2 := d0.2.1.2.1) (x3 := d0.2.1.2.2.1) (x4 := d0.2.1.2.2.2) (x5 := d0.2.2.1) (x6 := d0.2.2.2.1) (x7 := d0.2.2.2.2.1) (x8 := d0.2.2.2.2.2.1) (x9 := d0.2.2.2.2.2.2) w1_0
          have q36_r1 := Rd.room (q36_1.rd (mle_refl _))
          have q36_r2 := Rd.room (q36_2.rd (mle_refl _))
          have q36_r3 := Rd.room (q36_3.rd (mle_refl _))
          have q36_r4 := Rd.room (q36_4.rd (mle_refl _))
          have q36_r5 := Rd.room (q36_5.rd (mle_refl _))
          simp only [inK] at q36_8
          simp only [inK] at q36_9
          refine VO.inv _ (fun _ h => h.parts (i := 1) rfl q36_S [142, 137, 138, 139, 140, 141]) ?_
          refine VO.y rfl (.ld1 142 rfl tk27 rfl (cellsAt_one rfl rfl)) ?_
          refine VO.inv _ (fun _ h => h.nilc 144) ?_
          obtain ⟨mo43, cs43, hM43, hA43, hC43⟩ := (OwnL.nil .byte mnil mnil)
          obtain ⟨all43, hS43, hR43⟩ := Rd.srcI (P := Try.prog) ((OwnL.rd (Ow.ownl q36_4 rfl mnil) (mle_refl _) (mle_nil _))) Try.underlying27
          refine VO.app 144 rfl rfl rfl tsl27 tz5 rfl rfl hM43 hA43 (hS43 _ 140 rfl) hR43.nice (by simp only [maxLen]; (exact fin1_rDurable_ok)) (by exact fin1_rDurable_ok) (by decide) (fun v43 m43 hN43 => ?_)
          have ho43 : OwnL .byte m43 mnil v43 (d0.2.1.2.2.2) := OwnL.more hC43 hN43 (All2c.mono hR43 fun _ _ h => Rd.flat rfl h _)
          obtain ⟨A43, c43, rfl, l43, k43⟩ := ho43.slice
          simp only [maxLen] at k43
          refine VO.as ?_
          refine VO.gather (l := [mone g0 (.cells [Value.bool d0.1, Value.slice q36_A1 (d0.2.1.1.length) (q36_c1), Value.slice q36_A2 (d0.2.1.2.1.length) (q36_c2), Value.slice q36_A3 (d0.2.1.2.2.1.length) (q36_c3), Value.slice q36_A4 (d0.2.1.2.2.2.length) (q36_c4), Value.slice q36_A5 (d0.2.2.1.length) (q36_c5), Value.bool d0.2.2.2.1, Value.bool d0.2.2.2.2.1, Value.int .i64 (d0.2.2.2.2.2.1), Value.int .i64 (d0.2.2.2.2.2.2)].toArray q36_E (0, 0)), q36_n1, q36_n2, q36_n3, q36_n4, q36_n5]) 145 [142, 137, 138, 139, 140, 141] rfl (fun hg45 => ?_)
          have ho45 : Ow (.ptr Tref05Disk) (muns [mone g0 (.cells [Value.bool d0.1, Value.slice q36_A1 (d0.2.1.1.length) (q36_c1), Value.slice q36_A2 (d0.2.1.2.1.length) (q36_c2), Value.slice q36_A3 (d0.2.1.2.2.1.length) (q36_c3), Value.slice q36_A4 (d0.2.1.2.2.2.length) (q36_c4), Value.slice q36_A5 (d0.2.2.1.length) (q36_c5), Value.bool d0.2.2.2.1, Value.bool d0.2.2.2.2.1, Value.int .i64 (d0.2.2.2.2.2.1), Value.int .i64 (d0.2.2.2.2.2.2)].toArray q36_E (0, 0)), q36_n1, q36_n2, q36_n3, q36_n4, q36_n5]) [.pointer (some ⟨g0, 0, none⟩)] (g0, d0) := (show Ow (.ptr Tref05Disk) _ _ (_, d0) from (mkP_ref05Disk d0.1 d0.2.1.1 d0.2.1.2.1 d0.2.1.2.2.1 d0.2.1.2.2.2 d0.2.2.1 d0.2.2.2.1 d0.2.2.2.2.1 d0.2.2.2.2.2.1 d0.2.2.2.2.2.2 hg45 (OwnL.ow (Ow.ownl q36_1 rfl mnil) rfl) (OwnL.ow (Ow.ownl q36_2 rfl mnil) rfl) (OwnL.ow (Ow.ownl q36_3 rfl mnil) rfl) (OwnL.ow (Ow.ownl q36_4 rfl mnil) rfl) q36_5 (by simp only [inK]; (exact fin1_rDurable_ok)) (by simp only [inK]; (exact fin1_rDurable_ok))))
          refine VO.k5 0 1 4 5 15 ?_
          refine VC.ret ?_
          refine ⟨_, _, res_run (rs := [.tmp 4]) rfl (.tmp rfl .nil), fun W_ hI => out_of (l := [m43, muns [mone g0 (.cells [Value.bool d0.1, Value.slice q36_A1 (d0.2.1.1.length) (q36_c1), Value.slice q36_A2 (d0.2.1.2.1.length) (q36_c2), Value.slice q36_A3 (d0.2.1.2.2.1.length) (q36_c3), Value.slice q36_A4 (d0.2.1.2.2.2.length) (q36_c4), Value.slice q36_A5 (d0.2.2.1.length) (q36_c5), Value.bool d0.2.2.2.1, Value.bool d0.2.2.2.2.1, Value.int .i64 (d0.2.2.2.2.2.1), Value.int .i64 (d0.2.2.2.2.2.2)].toArray q36_E (0, 0)), q36_n1, q36_n2, q36_n3, q36_n4, q36_n5]]) hI [144, 145] rfl rfl (mle_refl _) (fun hS_ => ?_)⟩
          dsimp only [packV]
          have he0 : (dDurable (fromR d0) d1 : Ty.Den (.sl .byte)) = d0.2.1.2.2.2 := by first | rfl | (exact fin0_rDurable_ok)
          have hm0_ : (d0 : Dref05Disk) = d0 := by first | rfl | (exact fin0_rDurable_ok)
          refine ⟨Value.slice A43 ((d0.2.1.2.2.2).length) (c43), muns [m43], muns [muns [mone g0 (.cells [Value.bool d0.1, Value.slice q36_A1 (d0.2.1.1.length) (q36_c1), Value.slice q36_A2 (d0.2.1.2.1.length) (q36_c2), Value.slice q36_A3 (d0.2.1.2.2.1.length) (q36_c3), Value.slice q36_A4 (d0.2.1.2.2.2.length) (q36_c4), Value.slice q36_A5 (d0.2.2.1.length) (q36_c5), Value.bool d0.2.2.2.1, Value.bool d0.2.2.2.2.1, Value.int .i64 (d0.2.2.2.2.2.1), Value.int .i64 (d0.2.2.2.2.2.2)].toArray q36_E (0, 0)), q36_n1, q36_n2, q36_n3, q36_n4, q36_n5]], ?_, ?_, ?_, ?_⟩
          rotate_left
          · exact Seps.grp (ls := [[m43], [muns [mone g0 (.cells [Value.bool d0.1, Value.slice q36_A1 (d0.2.1.1.length) (q36_c1), Value.slice q36_A2 (d0.2.1.2.1.length) (q36_c2), Value.slice q36_A3 (d0.2.1.2.2.1.length) (q36_c3), Value.slice q36_A4 (d0.2.1.2.2.2.length) (q36_c4), Value.slice q36_A5 (d0.2.2.1.length) (q36_c5), Value.bool d0.2.2.2.1, Value.bool d0.2.2.2.2.1, Value.int .i64 (d0.2.2.2.2.2.1), Value.int .i64 (d0.2.2.2.2.2.2)].toArray q36_E (0, 0)), q36_n1, q36_n2, q36_n3, q36_n4, q36_n5]]]) hS_
          · rw [he0]; exact (Ow.up (OwnL.ow ho43 rfl) ((Seps.self hS_ (List.Sublist.cons_cons _ (List.Sublist.cons _ List.Sublist.slnil))).1 _ (.head _)))
          · rw [hm0_]; exact (Ow.up ho45 ((Seps.self hS_ (List.Sublist.cons _ (List.Sublist.cons_cons _ List.Sublist.slnil))).1 _ (.head _)))
          all_goals (first | rfl | (simp [*]; done))
end
end Go.Proofs.Ytmhalhadgclffaa
