/- Part 5 of the proof of LOrphanWrite: what it needs of the library, the walks and the plain laws. Conditions: those named in each theorem. -/
import Derived.Test.YtbjkfnnabnacfaaLOrphanWriteM4
namespace Go.Proofs.Ytbjkfnnabnacfaa
section
set_option linter.unusedVariables false
set_option linter.unusedSimpArgs false
set_option maxRecDepth 4000
theorem fnOk80 : fnOk Try.prog 80 = true := by kernel_rfl
theorem fnOk81 : fnOk Try.prog 81 = true := by kernel_rfl
theorem fin0_rCut_ok {P : Prop} (h : P := by first | (rw [cut_bad1 (by assumption)] <;> rfl) | (rw [cut_bad2 (by assumption) (.inl (fun q_ : inF d1 => by obtain ⟨q1_, q2_⟩ := q_; omega))] <;> rfl) | (rw [cut_bad2 (by assumption) (.inr (.inl (by assumption)))] <;> rfl) | (rw [cut_bad2 (by assumption) (.inr (.inr (by assumption)))] <;> rfl) | (rw [cut_go (by assumption) (Decidable.not_not.2 (show inF d1 from ⟨by omega, by omega⟩)) (by assumption) (by assumption) (Decidable.not_not.2 (burn_yes (by assumption)))]; done) | (rw [cut_off (by assumption) (Decidable.not_not.2 (show inF d1 from ⟨by omega, by omega⟩)) (by assumption) (by assumption) (burn_not (by assumption))]; exact congrArg (Value.int _) (if_neg (burn_not (by assumption)))) | (rw [cut_off (by assumption) (Decidable.not_not.2 (show inF d1 from ⟨by omega, by omega⟩)) (by assumption) (by assumption) (burn_not (by assumption))]; rfl) | (rw [cut_off (by assumption) (Decidable.not_not.2 (show inF d1 from ⟨by omega, by omega⟩)) (by assumption) (by assumption) (burn_not (by assumption)), if_neg (burn_not (by assumption))])) : P := h
theorem fin1_rCut_ok {P : Prop} (h : P := by first | (rw [cut_bad1 (by assumption), to_from]; done) | (rw [cut_bad2 (by assumption) (.inl (fun q_ : inF d1 => by obtain ⟨q1_, q2_⟩ := q_; omega)), to_from]; done) | (rw [cut_bad2 (by assumption) (.inr (.inl (by assumption))), to_from]; done) | (rw [cut_bad2 (by assumption) (.inr (.inr (by assumption))), to_from]; done) | (rw [cut_go (by assumption) (Decidable.not_not.2 (show inF d1 from ⟨by omega, by omega⟩)) (by assumption) (by assumption) (Decidable.not_not.2 (burn_yes (by assumption)))]; exact (rcut_next (to_from d0).symm rfl).symm) | (rw [cut_off (by assumption) (Decidable.not_not.2 (show inF d1 from ⟨by omega, by omega⟩)) (by assumption) (by assumption) (burn_not (by assumption))])) : P := h
theorem rCut_ok (W : World) {m0 : Mem} (hm : mle (m0) (wm W)) {g0 : Nat} {d0 : Dref05Disk} (h0 : Ow (.ptr Tref05Disk) m0 [.pointer (some ⟨g0, 0, none⟩)] (g0, d0)) (d1 : Int) (h1 : inK .i64 d1) (d2 : Int) (h2 : inK .i64 d2) (e0 : okR d0) (e1 : wD (fromR d0) ≤ 1000000000000) : CallR Try.prog 82 [.pointer (some ⟨g0, 0, none⟩), .int .i64 d1, .int .i64 d2] W (m0) (fun v m' => v = .int .i64 ((dCut (fromR d0) d1 d2).2) ∧ Ow (.ptr Tref05Disk) m' [.pointer (some ⟨g0, 0, none⟩)] (g0, toR (dCut (fromR d0) d1 d2).1 d0.2.2.2.2.2.1)) := by
 have h1' := h1; simp only [inK] at h1'
 have h2' := h2; simp only [inK] at h2'
 refine CallR.ofB (n := 48) hm Try.func82 rfl rfl rfl ?_
 refine VC.rs (VO.as (VO.k4 0 1 2 6 (VC.rs (VO.mv ?_))))
 refine VO.call 1 rfl fnOk77 rfl rfl (fun W hW => rAsked_ok W (hW.at (i := 1) rfl) h0) (fun v1 m1 hv1 => ?_)
 obtain ⟨rfl, w1_0⟩ := hv1
 refine VO.as (VO.k5 0 1 2 6 7 (VC.seq (VC.rs (VO.mv (VO.y rfl (.neq rfl rfl) ?_)))))
 refine VO.kp [1, 0] [(1, m1), (0, mout (wm W) (m0))] ?_
 refine VO.k6 0 1 2 6 7 11 ?_
 refine VC.cond rfl (fun hc2 => ?_) (fun hc2 => ?_)
 · refine VC.rs (VO.mv (VO.as (VO.k6 0 1 2 6 7 11 (VC.ret (outR ?_)))))
   refine ⟨_, _, res_run (rs := [.tmp 6]) rfl (.tmp rfl .nil), fun W_ hI => out_of (l := [m1]) hI [1] rfl rfl (mle_refl _) (fun hS_ => ?_)⟩
   dsimp only [packV]
   have hm0_ : (toR (dCut (fromR d0) d1 d2).1 d0.2.2.2.2.2.1 : Dref05Disk) = d0 := by first | rfl | (exact fin1_rCut_ok)
   refine ⟨?_, ?_⟩
   rotate_left
   · rw [hm0_]; exact (Ow.up w1_0 (hS_.1 _ (.head _)))
   all_goals (first | rfl | (exact fin0_rCut_ok))
 refine VC.skip (outN (VC.seq (VC.rs (VO.mv (VO.y rfl (.lss rfl rfl) (VO.mv ?_))))))
 refine VO.dec (t := 15) rfl (fun hc3 => ?_) (fun hc3 => ?_)
 · refine VO.gN (VO.gN (VO.y rfl (.pT rfl rfl) (VO.mv (VO.gN (VO.gN (VO.y rfl (.pT rfl rfl) (VO.mv (VO.gN (VO.gN (VO.gN (VO.gN ?_)))))))))))
   refine VO.gN (VO.gN (VO.y rfl (.pT rfl rfl) (VO.k7 0 1 2 6 7 11 30 (VC.condT rfl (VC.rs (VO.as (VO.k7 0 1 2 6 7 11 30 (VC.ret (outR ?_)))))))))
   refine ⟨_, _, res_run (rs := [.tmp 6]) rfl (.tmp rfl .nil), fun W_ hI => out_of (l := [m1]) hI [1] rfl rfl (mle_refl _) (fun hS_ => ?_)⟩
   dsimp only [packV]
   have hm0_ : (toR (dCut (fromR d0) d1 d2).1 d0.2.2.2.2.2.1 : Dref05Disk) = d0 := by first | rfl | (exact fin1_rCut_ok)
   refine ⟨?_, ?_⟩
   rotate_left
   · rw [hm0_]; exact (Ow.up w1_0 (hS_.1 _ (.head _)))
   all_goals (first | rfl | (exact fin0_rCut_ok))
 refine VO.gy rfl ⟨_, rfl, rfl⟩ (.mv rfl) (VO.gy rfl ⟨_, rfl, rfl⟩ (.geq rfl rfl) (VO.y rfl (.pF rfl rfl) (VO.mv ?_)))
 refine VO.dec (t := 19) rfl (fun hc4 => ?_) (fun hc4 => ?_)
 · refine VO.gN (VO.gN (VO.y rfl (.pT rfl rfl) (VO.mv (VO.gN (VO.gN (VO.gN (VO.gN (VO.gN (VO.gN (VO.y rfl (.pT rfl rfl) (VO.k7 0 1 2 6 7 11 30 ?_)))))))))))
   refine VC.condT rfl (VC.rs (VO.as (VO.k7 0 1 2 6 7 11 30 (VC.ret (outR ?_)))))
   refine ⟨_, _, res_run (rs := [.tmp 6]) rfl (.tmp rfl .nil), fun W_ hI => out_of (l := [m1]) hI [1] rfl rfl (mle_refl _) (fun hS_ => ?_)⟩
   dsimp only [packV]
   have hm0_ : (toR (dCut (fromR d0) d1 d2).1 d0.2.2.2.2.2.1 : Dref05Disk) = d0 := by first | rfl | (exact fin1_rCut_ok)
   refine ⟨?_, ?_⟩
   rotate_left
   · rw [hm0_]; exact (Ow.up w1_0 (hS_.1 _ (.head _)))
   all_goals (first | rfl | (exact fin0_rCut_ok))
 refine VO.gy rfl ⟨_, rfl, rfl⟩ (.mv rfl) (VO.gy rfl ⟨_, rfl, rfl⟩ (.lss rfl rfl) (VO.y rfl (.pF rfl rfl) (VO.mv ?_)))
 refine VO.dec (t := 23) rfl (fun hc5 => ?_) (fun hc5 => ?_)
 · refine VO.gN (VO.gN (VO.gN (VO.gN (VO.gN (VO.gN (VO.y rfl (.pT rfl rfl) (VO.k7 0 1 2 6 7 11 30 (VC.condT rfl (VC.rs (VO.as (VO.k7 0 1 2 6 7 11 30 ?_)))))))))))
   refine VC.ret (outR ?_)
   refine ⟨_, _, res_run (rs := [.tmp 6]) rfl (.tmp rfl .nil), fun W_ hI => out_of (l := [m1]) hI [1] rfl rfl (mle_refl _) (fun hS_ => ?_)⟩
   dsimp only [packV]
   have hm0_ : (toR (dCut (fromR d0) d1 d2).1 d0.2.2.2.2.2.1 : Dref05Disk) = d0 := by first | rfl | (exact fin1_rCut_ok)
   refine ⟨?_, ?_⟩
   rotate_left
   · rw [hm0_]; exact (Ow.up w1_0 (hS_.1 _ (.head _)))
   all_goals (first | rfl | (exact fin0_rCut_ok))
 refine VO.gy rfl ⟨_, rfl, rfl⟩ (.mv rfl) (VO.gy rfl ⟨_, rfl, rfl⟩ (.mv rfl) (VO.gy rfl ⟨_, rfl, rfl⟩ (.mv rfl) ?_))
 refine VO.gcall 1 rfl ⟨_, rfl, rfl⟩ fnOk81 rfl rfl (fun W hW => rHolds_ok W (hW.at (i := 1) rfl) w1_0 d1 bdk (by assumption) bd (by first | assumption | exact ⟨by omega, by omega⟩)) (fun v6 m6 hv6 => ?_)
 obtain ⟨s6_0, p6_0, p6_1, rfl, hS6, f6_0, w6_0⟩ := hv6
 refine VO.inv _ (fun _ h => h.parts (i := 1) rfl hS6 [107, 108]) ?_
 have hfa9 := heldB_size d0.2.1 (d0.2.2.1.map stepOf) d1
 obtain ⟨A6_0, c6_0, eq6_0, l6_0, k6_0⟩ := f6_0.slice
 subst eq6_0
 simp only [maxLen] at k6_0
 refine VO.gy rfl ⟨_, rfl, rfl⟩ (.lenS rfl tsl25) ?_
 refine VO.gy rfl ⟨_, rfl, rfl⟩ (.gtr rfl rfl) (VO.y rfl (.pF rfl rfl) (VO.k7 0 1 2 6 7 11 30 ?_))
 refine VC.cond rfl (fun hc10 => ?_) (fun hc10 => ?_)
 · refine VC.rs (VO.as (VO.k7 0 1 2 6 7 11 30 (VC.ret (outR ?_))))
   refine ⟨_, _, res_run (rs := [.tmp 6]) rfl (.tmp rfl .nil), fun W_ hI => out_of (l := [p6_1]) hI [108] rfl rfl (mle_refl _) (fun hS_ => ?_)⟩
   dsimp only [packV]
   have hm0_ : (toR (dCut (fromR d0) d1 d2).1 d0.2.2.2.2.2.1 : Dref05Disk) = d0 := by first | rfl | (exact fin1_rCut_ok)
   refine ⟨?_, ?_⟩
   rotate_left
   · rw [hm0_]; exact (Ow.up w6_0 (hS_.1 _ (.head _)))
   all_goals (first | rfl | (exact fin0_rCut_ok))
 refine VC.skip (outN (VC.rs (VO.mv ?_)))
 refine VO.call 108 rfl fnOk78 rfl rfl (fun W hW => rStep_ok W (hW.at (i := 108) rfl) w6_0 (by assumption) bd) (fun v11 m11 hv11 => ?_)
 obtain ⟨rfl, w11_0⟩ := hv11
 have hfa12 := (ro_burn (show okR d0 by assumption))
 have hfa13 := (rw_burn (show okR d0 by assumption))
 have hfa14 := (wait_len (show okD (fromR d0) from (show okR d0 by assumption)))
 refine VO.as (VO.k7 0 1 2 6 7 11 30 (VC.seq (VC.rs (VO.mv (VO.y rfl (.neq rfl rfl) ?_)))))
 refine VO.kp [108, 0] [(108, m11), (0, mout (wm W) (m0))] ?_
 refine VO.k8 0 1 2 6 7 11 30 34 ?_
 refine VC.cond rfl (fun hc15 => ?_) (fun hc15 => ?_)
 · refine VC.rs (VO.mv (VO.as (VO.k8 0 1 2 6 7 11 30 34 (VC.ret (outR ?_)))))
   refine ⟨_, _, res_run (rs := [.tmp 6]) rfl (.tmp rfl .nil), fun W_ hI => out_of (l := [m11]) hI [108] rfl rfl (mle_refl _) (fun hS_ => ?_)⟩
   dsimp only [packV]
   have hm0_ : (toR (dCut (fromR d0) d1 d2).1 d0.2.2.2.2.2.1 : Dref05Disk) = toR (burnD (fromR d0)).1 d0.2.2.2.2.2.1 := by first | rfl | (exact fin1_rCut_ok)
   refine ⟨?_, ?_⟩
   rotate_left
   · rw [hm0_]; exact (Ow.up w11_0 (hS_.1 _ (.head _)))
   all_goals (first | rfl | (exact fin0_rCut_ok))
 · refine VC.skip (outN (VC.rs (VO.mv (VO.mv (VO.y rfl (.nilp rfl) (VO.y rfl (.fa rfl tst99 rfl) ?_))))))
   obtain ⟨q16_E, q16_A1, q16_c1, q16_A2, q16_c2, q16_A3, q16_c3, q16_A4, q16_c4, q16_A5, q16_c5, q16_n1, q16_n2, q16_n3, q16_n4, q16_n5, _, q16_S, q16_1, q16_2, q16_3, q16_4, q16_5, q16_8, q16_9⟩ := openP_ref05Disk (x0 := (toR (burnD (fromR d0)).1 d0.2.2.2.2.2.1).1) (x1 := ((toR (burnD (fromR d0)).1 d0.2.2.2.2.2.1).2.1).1) (x2 := ((toR (burnD (fromR d0)).1 d0.2.2.2.2.2.1).2.1).2.1) (x3 := ((toR (burnD (fromR d0)).1 d0.2.2.2.2.2.1).2.1).2.2.1) (x4 := ((toR (burnD (fromR d0)).1 d0.2.2.2.2.2.1).2.1).2.2.2) (x5 := (toR (burnD (fromR d0)).1 d0.2.2.2.2.2.1).2.2.1) (x6 := (toR (burnD (fromR d0)).1 d0.2.2.2.2.2.1).2.2.2.1) (x7 := (toR (burnD (fromR d0)).1 d0.2.2.2.2.2.1).2.2.2.2.1) (x8 := (toR (burnD (fromR d0)).1 d0.2.2.2.2.2.1).2.2.2.2.2.1) (x9 := (toR (burnD (fromR d0)).1 d0.2.2.2.2.2.1).2.2.2.2.2.2) w11_0
   have q16_r1 := q16_1.rm
   have q16_r2 := q16_2.rm
   have q16_r3 := q16_3.rm
   have q16_r4 := q16_4.rm
   have q16_r5 := q16_5.rm
   simp only [inK] at q16_8 q16_9
   refine VO.inv _ (fun _ h => h.parts (i := 108) rfl q16_S [122, 117, 118, 119, 120, 121]) ?_
   refine VO.y rfl (.ld1 122 rfl tk97 rfl (cellsAt_one rfl rfl)) (VO.mv (VO.mv ?_))
   refine VO.y rfl (.bst (cs := [.int .i64 (d1), .bool true, .int .i64 (d2), .slice none (0) (0)]) rfl tst103 tz103 rfl) ?_
   refine VO.bsl (cs := [Value.int .i64 (d1), Value.bool true, Value.int .i64 (d2), Value.slice none (0) (0)]) 124 rfl rfl tsl97 tz103 rfl rfl (fun g23 => ?_)
   refine VO.inv ((126, mnil) :: _) (fun _ h => h.nilc 126) ?_
   refine VO.appO (e := Tref05Raw) 121 126 124 rfl rfl rfl tsl97 tz103 rfl rfl rfl rfl q16_5 (mkO_ref05Raw d1 true d2 [] (Seps.nilAt 0 (Seps.nil _)) bdk bdk (Ow.nil _ _)) Try.underlying97 (cellsAt_one rfl rfl) bdm bd (by decide) (fun v25 m25 ho25 => ?_)
   obtain ⟨A25, c25, rfl, l25, k25⟩ := ho25.slice
   simp only [maxLen] at k25
   refine VO.y rfl (.nilp rfl) (VO.y rfl (.fa rfl tst99 rfl) ?_)
   refine VO.store (k := 1) 122 rfl rfl (.inr ⟨tk97, rfl⟩) rfl rfl rfl rfl rfl ?_
   refine VO.clsP 127 [122, 117, 118, 119, 120, 121] rfl (fun hg27 => (mkP_ref05Disk ((toR (burnD (fromR d0)).1 d0.2.2.2.2.2.1).1) (((toR (burnD (fromR d0)).1 d0.2.2.2.2.2.1).2.1).1) (((toR (burnD (fromR d0)).1 d0.2.2.2.2.2.1).2.1).2.1) (((toR (burnD (fromR d0)).1 d0.2.2.2.2.2.1).2.1).2.2.1) (((toR (burnD (fromR d0)).1 d0.2.2.2.2.2.1).2.1).2.2.2) (((toR (burnD (fromR d0)).1 d0.2.2.2.2.2.1).2.2.1) ++ [(d1, true, d2, [])]) ((toR (burnD (fromR d0)).1 d0.2.2.2.2.2.1).2.2.2.1) ((toR (burnD (fromR d0)).1 d0.2.2.2.2.2.1).2.2.2.2.1) ((toR (burnD (fromR d0)).1 d0.2.2.2.2.2.1).2.2.2.2.2.1) ((toR (burnD (fromR d0)).1 d0.2.2.2.2.2.1).2.2.2.2.2.2) hg27 (OwnL.ow (Ow.ownl q16_1 rfl mnil) rfl) (OwnL.ow (Ow.ownl q16_2 rfl mnil) rfl) (OwnL.ow (Ow.ownl q16_3 rfl mnil) rfl) (OwnL.ow (Ow.ownl q16_4 rfl mnil) rfl) ho25 bdk bdk)) (fun mc27 ho27 => ?_)
   refine VO.k8 0 1 2 6 7 11 30 34 (VC.rs (VO.as (VO.k8 0 1 2 6 7 11 30 34 (VC.ret ?_))))
   refine ⟨_, _, res_run (rs := [.tmp 6]) rfl (.tmp rfl .nil), fun W_ hI => out_of (l := [mc27]) hI [127] rfl rfl (mle_refl _) (fun hS_ => ?_)⟩
   dsimp only [packV]
   have hm0_ : (toR (dCut (fromR d0) d1 d2).1 d0.2.2.2.2.2.1 : Dref05Disk) = ((toR (burnD (fromR d0)).1 d0.2.2.2.2.2.1).1, ((toR (burnD (fromR d0)).1 d0.2.2.2.2.2.1).2.1), ((toR (burnD (fromR d0)).1 d0.2.2.2.2.2.1).2.2.1) ++ [(d1, true, d2, [])], (toR (burnD (fromR d0)).1 d0.2.2.2.2.2.1).2.2.2) := by first | rfl | (exact fin1_rCut_ok)
   refine ⟨?_, ?_⟩
   rotate_left
   · rw [hm0_]; exact (Ow.up ho27 (hS_.1 _ (.head _)))
   all_goals (first | rfl | (exact fin0_rCut_ok))
theorem rSync_ok (W : World) {m0 : Mem} (hm : mle (m0) (wm W)) {g0 : Nat} {d0 : Dref05Disk} (h0 : Ow (.ptr Tref05Disk) m0 [.pointer (some ⟨g0, 0, none⟩)] (g0, d0)) (e0 : okR d0) (e1 : wD (fromR d0) ≤ 1000000000000) : CallR Try.prog 38 [.pointer (some ⟨g0, 0, none⟩)] W (m0) (fun v m' => v = .int .i64 ((dSync (fromR d0)).2) ∧ Ow (.ptr Tref05Disk) m' [.pointer (some ⟨g0, 0, none⟩)] (g0, toR (dSync (fromR d0)).1 d0.2.2.2.2.2.1)) := by
 refine CallR.ofB (n := 24) hm Try.func38 rfl rfl rfl ?_
 refine VC.rs (VO.as (VO.k2 0 2 (VC.rs (VO.mv ?_))))
 refine VO.call 1 rfl fnOk77 rfl rfl (fun W hW => rAsked_ok W (hW.at (i := 1) rfl) h0) (fun v1 m1 hv1 => ?_)
 obtain ⟨rfl, w1_0⟩ := hv1
 refine VO.as (VO.k3 0 2 3 (VC.seq (VC.rs (VO.mv (VO.y rfl (.neq rfl rfl) ?_)))))
 refine VO.kp [1, 0] [(1, m1), (0, mout (wm W) (m0))] ?_
 refine VO.k4 0 2 3 7 ?_
 refine VC.cond rfl (fun hc2 => ?_) (fun hc2 => ?_)
 · refine VC.rs (VO.mv (VO.as (VO.k4 0 2 3 7 (VC.ret (outR ?_)))))
   refine ⟨_, _, res_run (rs := [.tmp 2]) rfl (.tmp rfl .nil), fun W_ hI => out_of (l := [m1]) hI [1] rfl rfl (mle_refl _) (fun hS_ => ?_)⟩
   dsimp only [packV]
   have hm0_ : (toR (dSync (fromR d0)).1 d0.2.2.2.2.2.1 : Dref05Disk) = d0 := by first | rfl | (first | (rw [sync_bad (by assumption), to_from]; done) | (rw [sync_go (by assumption) (Decidable.not_not.2 (burn_yes (by assumption)))]; exact (rsync_next (burn_ok e0) (nf_burn (nf_from d0)) (by omega)).symm) | (rw [sync_off (by assumption) (burn_not (by assumption))]))
   refine ⟨?_, ?_⟩
   rotate_left
   · rw [hm0_]; exact (Ow.up w1_0 (hS_.1 _ (.head _)))
   all_goals (first | rfl | (first | (rw [sync_bad (by assumption)] <;> rfl) | (rw [sync_go (by assumption) (Decidable.not_not.2 (burn_yes (by assumption)))]; done) | (rw [sync_off (by assumption) (burn_not (by assumption))]; exact congrArg (Value.int _) (if_neg (burn_not (by assumption)))) | (rw [sync_off (by assumption) (burn_not (by assumption))]; rfl)))
 refine VC.skip (outN (VC.rs (VO.mv ?_)))
 refine VO.call 1 rfl fnOk78 rfl rfl (fun W hW => rStep_ok W (hW.at (i := 1) rfl) w1_0 (by assumption) bd) (fun v3 m3 hv3 => ?_)
 obtain ⟨rfl, w3_0⟩ := hv3
 have hfa4 := (ro_burn (show okR d0 by assumption))
 have hfa5 := (rw_burn (show okR d0 by assumption))
 have hfa6 := (wait_len (show okD (fromR d0) from (show okR d0 by assumption)))
 refine VO.as (VO.k4 0 2 3 7 (VC.seq (VC.rs (VO.mv (VO.y rfl (.neq rfl rfl) (VO.k5 0 2 3 7 12 ?_))))))
 refine VC.cond rfl (fun hc7 => ?_) (fun hc7 => ?_)
 · refine VC.rs (VO.mv (VO.as ?_))
   refine VO.kp [1, 0] [(1, m3), (0, mout (wm W) (m0))] ?_
   refine VO.k5 0 2 3 7 12 (VC.ret (outR ?_))
   refine ⟨_, _, res_run (rs := [.tmp 2]) rfl (.tmp rfl .nil), fun W_ hI => out_of (l := [m3]) hI [1] rfl rfl (mle_refl _) (fun hS_ => ?_)⟩
   dsimp only [packV]
   have hm0_ : (toR (dSync (fromR d0)).1 d0.2.2.2.2.2.1 : Dref05Disk) = toR (burnD (fromR d0)).1 d0.2.2.2.2.2.1 := by first | rfl | (first | (rw [sync_bad (by assumption), to_from]; done) | (rw [sync_go (by assumption) (Decidable.not_not.2 (burn_yes (by assumption)))]; exact (rsync_next (burn_ok e0) (nf_burn (nf_from d0)) (by omega)).symm) | (rw [sync_off (by assumption) (burn_not (by assumption))]))
   refine ⟨?_, ?_⟩
   rotate_left
   · rw [hm0_]; exact (Ow.up w3_0 (hS_.1 _ (.head _)))
   all_goals (first | rfl | (first | (rw [sync_bad (by assumption)] <;> rfl) | (rw [sync_go (by assumption) (Decidable.not_not.2 (burn_yes (by assumption)))]; done) | (rw [sync_off (by assumption) (burn_not (by assumption))]; exact congrArg (Value.int _) (if_neg (burn_not (by assumption)))) | (rw [sync_off (by assumption) (burn_not (by assumption))]; rfl)))
 · refine VC.skip (outN (VC.rs (VO.mv (VO.mv (VO.y rfl (.nilp rfl) (VO.y rfl (.fa rfl tst99 rfl) ?_))))))
   obtain ⟨q8_E, q8_A1, q8_c1, q8_A2, q8_c2, q8_A3, q8_c3, q8_A4, q8_c4, q8_A5, q8_c5, q8_n1, q8_n2, q8_n3, q8_n4, q8_n5, _, q8_S, q8_1, q8_2, q8_3, q8_4, q8_5, q8_8, q8_9⟩ := openP_ref05Disk (x0 := (toR (burnD (fromR d0)).1 d0.2.2.2.2.2.1).1) (x1 := ((toR (burnD (fromR d0)).1 d0.2.2.2.2.2.1).2.1).1) (x2 := ((toR (burnD (fromR d0)).1 d0.2.2.2.2.2.1).2.1).2.1) (x3 := ((toR (burnD (fromR d0)).1 d0.2.2.2.2.2.1).2.1).2.2.1) (x4 := ((toR (burnD (fromR d0)).1 d0.2.2.2.2.2.1).2.1).2.2.2) (x5 := (toR (burnD (fromR d0)).1 d0.2.2.2.2.2.1).2.2.1) (x6 := (toR (burnD (fromR d0)).1 d0.2.2.2.2.2.1).2.2.2.1) (x7 := (toR (burnD (fromR d0)).1 d0.2.2.2.2.2.1).2.2.2.2.1) (x8 := (toR (burnD (fromR d0)).1 d0.2.2.2.2.2.1).2.2.2.2.2.1) (x9 := (toR (burnD (fromR d0)).1 d0.2.2.2.2.2.1).2.2.2.2.2.2) w3_0
   have q8_r1 := q8_1.rm
   have q8_r2 := q8_2.rm
   have q8_r3 := q8_3.rm
   have q8_r4 := q8_4.rm
   have q8_r5 := q8_5.rm
   simp only [inK] at q8_8 q8_9
   refine VO.inv _ (fun _ h => h.parts (i := 1) rfl q8_S [114, 109, 110, 111, 112, 113]) ?_
   refine VO.y rfl (.ld1 114 rfl tk97 rfl (cellsAt_one rfl rfl)) ?_
   refine VO.y rfl (.lenS rfl tsl97) ?_
   refine VO.clsP 116 [114, 109, 110, 111, 112, 113] rfl (fun hg16 => (show Ow (.ptr Tref05Disk) _ _ (_, (toR (burnD (fromR d0)).1 d0.2.2.2.2.2.1)) from (mkP_ref05Disk ((toR (burnD (fromR d0)).1 d0.2.2.2.2.2.1).1) (((toR (burnD (fromR d0)).1 d0.2.2.2.2.2.1).2.1).1) (((toR (burnD (fromR d0)).1 d0.2.2.2.2.2.1).2.1).2.1) (((toR (burnD (fromR d0)).1 d0.2.2.2.2.2.1).2.1).2.2.1) (((toR (burnD (fromR d0)).1 d0.2.2.2.2.2.1).2.1).2.2.2) ((toR (burnD (fromR d0)).1 d0.2.2.2.2.2.1).2.2.1) ((toR (burnD (fromR d0)).1 d0.2.2.2.2.2.1).2.2.2.1) ((toR (burnD (fromR d0)).1 d0.2.2.2.2.2.1).2.2.2.2.1) ((toR (burnD (fromR d0)).1 d0.2.2.2.2.2.1).2.2.2.2.2.1) ((toR (burnD (fromR d0)).1 d0.2.2.2.2.2.1).2.2.2.2.2.2) hg16 (OwnL.ow (Ow.ownl q8_1 rfl mnil) rfl) (OwnL.ow (Ow.ownl q8_2 rfl mnil) rfl) (OwnL.ow (Ow.ownl q8_3 rfl mnil) rfl) (OwnL.ow (Ow.ownl q8_4 rfl mnil) rfl) q8_5 bdk bdk))) (fun mc16 ho16 => ?_)
   refine VO.call 116 rfl fnOk80 rfl rfl (fun W hW => rKeep_ok W (hW.at (i := 116) rfl) ho16 ((((toR (burnD (fromR d0)).1 d0.2.2.2.2.2.1).2.2.1).length : Nat) : Int) bdk (by assumption) bd bd) (fun v15 m15 hv15 => ?_)
   obtain ⟨rfl, w15_0⟩ := hv15
   refine VO.kp [116, 0] [(116, m15), (0, mout (wm W) (m0))] ?_
   refine VO.k5 0 2 3 7 12 (VC.rs (VO.mv (VO.y rfl (.nilp rfl) (VO.y rfl (.fa rfl tst99 rfl) ?_))))
   obtain ⟨q17_E, q17_A1, q17_c1, q17_A2, q17_c2, q17_A3, q17_c3, q17_A4, q17_c4, q17_A5, q17_c5, q17_n1, q17_n2, q17_n3, q17_n4, q17_n5, _, q17_S, q17_1, q17_2, q17_3, q17_4, q17_5, q17_8, q17_9⟩ := openP_ref05Disk (x0 := (toR (keepR (fromR (toR (burnD (fromR d0)).1 d0.2.2.2.2.2.1)) ((((toR (burnD (fromR d0)).1 d0.2.2.2.2.2.1).2.2.1).length : Nat) : Int).toNat) (toR (burnD (fromR d0)).1 d0.2.2.2.2.2.1).2.2.2.2.2.1).1) (x1 := ((toR (keepR (fromR (toR (burnD (fromR d0)).1 d0.2.2.2.2.2.1)) ((((toR (burnD (fromR d0)).1 d0.2.2.2.2.2.1).2.2.1).length : Nat) : Int).toNat) (toR (burnD (fromR d0)).1 d0.2.2.2.2.2.1).2.2.2.2.2.1).2.1).1) (x2 := ((toR (keepR (fromR (toR (burnD (fromR d0)).1 d0.2.2.2.2.2.1)) ((((toR (burnD (fromR d0)).1 d0.2.2.2.2.2.1).2.2.1).length : Nat) : Int).toNat) (toR (burnD (fromR d0)).1 d0.2.2.2.2.2.1).2.2.2.2.2.1).2.1).2.1) (x3 := ((toR (keepR (fromR (toR (burnD (fromR d0)).1 d0.2.2.2.2.2.1)) ((((toR (burnD (fromR d0)).1 d0.2.2.2.2.2.1).2.2.1).length : Nat) : Int).toNat) (toR (burnD (fromR d0)).1 d0.2.2.2.2.2.1).2.2.2.2.2.1).2.1).2.2.1) (x4 := ((toR (keepR (fromR (toR (burnD (fromR d0)).1 d0.2.2.2.2.2.1)) ((((toR (burnD (fromR d0)).1 d0.2.2.2.2.2.1).2.2.1).length : Nat) : Int).toNat) (toR (burnD (fromR d0)).1 d0.2.2.2.2.2.1).2.2.2.2.2.1).2.1).2.2.2) (x5 := (toR (keepR (fromR (toR (burnD (fromR d0)).1 d0.2.2.2.2.2.1)) ((((toR (burnD (fromR d0)).1 d0.2.2.2.2.2.1).2.2.1).length : Nat) : Int).toNat) (toR (burnD (fromR d0)).1 d0.2.2.2.2.2.1).2.2.2.2.2.1).2.2.1) (x6 := (toR (keepR (fromR (toR (burnD (fromR d0)).1 d0.2.2.2.2.2.1)) ((((toR (burnD (fromR d0)).1 d0.2.2.2.2.2.1).2.2.1).length : Nat) : Int).toNat) (toR (burnD (fromR d0)).1 d0.2.2.2.2.2.1).2.2.2.2.2.1).2.2.2.1) (x7 := (toR (keepR (fromR (toR (burnD (fromR d0)).1 d0.2.2.2.2.2.1)) ((((toR (burnD (fromR d0)).1 d0.2.2.2.2.2.1).2.2.1).length : Nat) : Int).toNat) (toR (burnD (fromR d0)).1 d0.2.2.2.2.2.1).2.2.2.2.2.1).2.2.2.2.1) (x8 := (toR (keepR (fromR (toR (burnD (fromR d0)).1 d0.2.2.2.2.2.1)) ((((toR (burnD (fromR d0)).1 d0.2.2.2.2.2.1).2.2.1).length : Nat) : Int).toNat) (toR (burnD (fromR d0)).1 d0.2.2.2.2.2.1).2.2.2.2.2.1).2.2.2.2.2.1) (x9 := (toR (keepR (fromR (toR (burnD (fromR d0)).1 d0.2.2.2.2.2.1)) ((((toR (burnD (fromR d0)).1 d0.2.2.2.2.2.1).2.2.1).length : Nat) : Int).toNat) (toR (burnD (fromR d0)).1 d0.2.2.2.2.2.1).2.2.2.2.2.1).2.2.2.2.2.2) w15_0
   have q17_r1 := q17_1.rm
   have q17_r2 := q17_2.rm
   have q17_r3 := q17_3.rm
   have q17_r4 := q17_4.rm
   have q17_r5 := q17_5.rm
   simp only [inK] at q17_8 q17_9
   refine VO.inv _ (fun _ h => h.parts (i := 116) rfl q17_S [123, 118, 119, 120, 121, 122]) ?_
   refine VO.store (k := 1) 123 rfl rfl (.inr ⟨tk97, rfl⟩) rfl rfl rfl rfl rfl ?_
   refine VO.clsP 124 [123, 118, 119, 120, 121] rfl (fun hg24 => (mkP_ref05Disk ((toR (keepR (fromR (toR (burnD (fromR d0)).1 d0.2.2.2.2.2.1)) ((((toR (burnD (fromR d0)).1 d0.2.2.2.2.2.1).2.2.1).length : Nat) : Int).toNat) (toR (burnD (fromR d0)).1 d0.2.2.2.2.2.1).2.2.2.2.2.1).1) (((toR (keepR (fromR (toR (burnD (fromR d0)).1 d0.2.2.2.2.2.1)) ((((toR (burnD (fromR d0)).1 d0.2.2.2.2.2.1).2.2.1).length : Nat) : Int).toNat) (toR (burnD (fromR d0)).1 d0.2.2.2.2.2.1).2.2.2.2.2.1).2.1).1) (((toR (keepR (fromR (toR (burnD (fromR d0)).1 d0.2.2.2.2.2.1)) ((((toR (burnD (fromR d0)).1 d0.2.2.2.2.2.1).2.2.1).length : Nat) : Int).toNat) (toR (burnD (fromR d0)).1 d0.2.2.2.2.2.1).2.2.2.2.2.1).2.1).2.1) (((toR (keepR (fromR (toR (burnD (fromR d0)).1 d0.2.2.2.2.2.1)) ((((toR (burnD (fromR d0)).1 d0.2.2.2.2.2.1).2.2.1).length : Nat) : Int).toNat) (toR (burnD (fromR d0)).1 d0.2.2.2.2.2.1).2.2.2.2.2.1).2.1).2.2.1) (((toR (keepR (fromR (toR (burnD (fromR d0)).1 d0.2.2.2.2.2.1)) ((((toR (burnD (fromR d0)).1 d0.2.2.2.2.2.1).2.2.1).length : Nat) : Int).toNat) (toR (burnD (fromR d0)).1 d0.2.2.2.2.2.1).2.2.2.2.2.1).2.1).2.2.2) [] ((toR (keepR (fromR (toR (burnD (fromR d0)).1 d0.2.2.2.2.2.1)) ((((toR (burnD (fromR d0)).1 d0.2.2.2.2.2.1).2.2.1).length : Nat) : Int).toNat) (toR (burnD (fromR d0)).1 d0.2.2.2.2.2.1).2.2.2.2.2.1).2.2.2.1) ((toR (keepR (fromR (toR (burnD (fromR d0)).1 d0.2.2.2.2.2.1)) ((((toR (burnD (fromR d0)).1 d0.2.2.2.2.2.1).2.2.1).length : Nat) : Int).toNat) (toR (burnD (fromR d0)).1 d0.2.2.2.2.2.1).2.2.2.2.2.1).2.2.2.2.1) ((toR (keepR (fromR (toR (burnD (fromR d0)).1 d0.2.2.2.2.2.1)) ((((toR (burnD (fromR d0)).1 d0.2.2.2.2.2.1).2.2.1).length : Nat) : Int).toNat) (toR (burnD (fromR d0)).1 d0.2.2.2.2.2.1).2.2.2.2.2.1).2.2.2.2.2.1) ((toR (keepR (fromR (toR (burnD (fromR d0)).1 d0.2.2.2.2.2.1)) ((((toR (burnD (fromR d0)).1 d0.2.2.2.2.2.1).2.2.1).length : Nat) : Int).toNat) (toR (burnD (fromR d0)).1 d0.2.2.2.2.2.1).2.2.2.2.2.1).2.2.2.2.2.2) (Seps.nilAt 5 hg24) (OwnL.ow (Ow.ownl q17_1 rfl mnil) rfl) (OwnL.ow (Ow.ownl q17_2 rfl mnil) rfl) (OwnL.ow (Ow.ownl q17_3 rfl mnil) rfl) (OwnL.ow (Ow.ownl q17_4 rfl mnil) rfl) (Ow.nil _ _) bdk bdk)) (fun mc24 ho24 => ?_)
   refine VO.k5 0 2 3 7 12 (VC.rs (VO.as (VO.k5 0 2 3 7 12 (VC.ret ?_))))
   refine ⟨_, _, res_run (rs := [.tmp 2]) rfl (.tmp rfl .nil), fun W_ hI => out_of (l := [mc24]) hI [124] rfl rfl (mle_refl _) (fun hS_ => ?_)⟩
   dsimp only [packV]
   have hm0_ : (toR (dSync (fromR d0)).1 d0.2.2.2.2.2.1 : Dref05Disk) = ((toR (keepR (fromR (toR (burnD (fromR d0)).1 d0.2.2.2.2.2.1)) ((((toR (burnD (fromR d0)).1 d0.2.2.2.2.2.1).2.2.1).length : Nat) : Int).toNat) (toR (burnD (fromR d0)).1 d0.2.2.2.2.2.1).2.2.2.2.2.1).1, ((toR (keepR (fromR (toR (burnD (fromR d0)).1 d0.2.2.2.2.2.1)) ((((toR (burnD (fromR d0)).1 d0.2.2.2.2.2.1).2.2.1).length : Nat) : Int).toNat) (toR (burnD (fromR d0)).1 d0.2.2.2.2.2.1).2.2.2.2.2.1).2.1), [], (toR (keepR (fromR (toR (burnD (fromR d0)).1 d0.2.2.2.2.2.1)) ((((toR (burnD (fromR d0)).1 d0.2.2.2.2.2.1).2.2.1).length : Nat) : Int).toNat) (toR (burnD (fromR d0)).1 d0.2.2.2.2.2.1).2.2.2.2.2.1).2.2.2) := by first | rfl | (first | (rw [sync_bad (by assumption), to_from]; done) | (rw [sync_go (by assumption) (Decidable.not_not.2 (burn_yes (by assumption)))]; exact (rsync_next (burn_ok e0) (nf_burn (nf_from d0)) (by omega)).symm) | (rw [sync_off (by assumption) (burn_not (by assumption))]))
   refine ⟨?_, ?_⟩
   rotate_left
   · rw [hm0_]; exact (Ow.up ho24 (hS_.1 _ (.head _)))
   all_goals (first | rfl | (first | (rw [sync_bad (by assumption)] <;> rfl) | (rw [sync_go (by assumption) (Decidable.not_not.2 (burn_yes (by assumption)))]; done) | (rw [sync_off (by assumption) (burn_not (by assumption))]; exact congrArg (Value.int _) (if_neg (burn_not (by assumption)))) | (rw [sync_off (by assumption) (burn_not (by assumption))]; rfl)))
theorem rFuse_ok (W : World) {m0 : Mem} (hm : mle (m0) (wm W)) {g0 : Nat} {d0 : Dref05Disk} (h0 : Ow (.ptr Tref05Disk) m0 [.pointer (some ⟨g0, 0, none⟩)] (g0, d0)) (d1 : Int) (h1 : inK .i64 d1) (e0 : okR d0) : CallR Try.prog 40 [.pointer (some ⟨g0, 0, none⟩), .int .i64 d1] W (m0) (fun v m' => v = .int .i64 ((dFuse (fromR d0) d1).2) ∧ Ow (.ptr Tref05Disk) m' [.pointer (some ⟨g0, 0, none⟩)] (g0, toR (dFuse (fromR d0) d1).1 d0.2.2.2.2.2.1)) := by
 have h1' := h1; simp only [inK] at h1'
 refine CallR.ofB (n := 20) hm Try.func40 rfl rfl rfl ?_
 refine VC.rs (VO.as (VO.k3 0 1 4 (VC.rs (VO.mv ?_))))
 refine VO.call 1 rfl fnOk77 rfl rfl (fun W hW => rAsked_ok W (hW.at (i := 1) rfl) h0) (fun v1 m1 hv1 => ?_)
 obtain ⟨rfl, w1_0⟩ := hv1
 refine VO.as (VO.k4 0 1 4 5 (VC.seq (VC.rs (VO.mv (VO.y rfl (.neq rfl rfl) ?_)))))
 refine VO.kp [1, 0] [(1, m1), (0, mout (wm W) (m0))] ?_
 refine VO.k5 0 1 4 5 9 ?_
 refine VC.cond rfl (fun hc2 => ?_) (fun hc2 => ?_)
 · refine VC.rs (VO.mv (VO.as (VO.k5 0 1 4 5 9 (VC.ret (outR ?_)))))
   refine ⟨_, _, res_run (rs := [.tmp 4]) rfl (.tmp rfl .nil), fun W_ hI => out_of (l := [m1]) hI [1] rfl rfl (mle_refl _) (fun hS_ => ?_)⟩
   dsimp only [packV]
   have hm0_ : (toR (dFuse (fromR d0) d1).1 d0.2.2.2.2.2.1 : Dref05Disk) = d0 := by first | rfl | (first | (rw [show dFuse (fromR d0) d1 = (fromR d0, wrongD (fromR d0)) from if_pos (by assumption), to_from]; done) | (rw [show dFuse (fromR d0) d1 = (fromR d0, 2) from by unfold dFuse; rw [if_neg (by assumption), if_pos (by assumption)], to_from]; done) | exact congrArg Prod.fst (show (toR (dFuse (fromR d0) d1).1 d0.2.2.2.2.2.1, (0 : Int)) = ((d0.1, d0.2.1, d0.2.2.1, d0.2.2.2.1, true, d1, d0.2.2.2.2.2.2), 0) from by unfold dFuse; rw [if_neg (by assumption), if_neg (by assumption)]; simp [toR, fromR]))
   refine ⟨?_, ?_⟩
   rotate_left
   · rw [hm0_]; exact (Ow.up w1_0 (hS_.1 _ (.head _)))
   all_goals (first | rfl | (first | (rw [show dFuse (fromR d0) d1 = (fromR d0, wrongD (fromR d0)) from if_pos (by assumption)] <;> rfl) | (rw [show dFuse (fromR d0) d1 = (fromR d0, 2) from by unfold dFuse; rw [if_neg (by assumption), if_pos (by assumption)]] <;> rfl) | (unfold dFuse; rw [if_neg (by assumption), if_neg (by assumption)])))
 refine VC.skip (outN (VC.seq (VC.rs (VO.mv (VO.y rfl (.lss rfl rfl) (VO.k6 0 1 4 5 9 12 ?_))))))
 refine VC.cond rfl (fun hc3 => ?_) (fun hc3 => ?_)
 · refine VC.rs (VO.as (VO.k6 0 1 4 5 9 12 (VC.ret (outR ?_))))
   refine ⟨_, _, res_run (rs := [.tmp 4]) rfl (.tmp rfl .nil), fun W_ hI => out_of (l := [m1]) hI [1] rfl rfl (mle_refl _) (fun hS_ => ?_)⟩
   dsimp only [packV]
   have hm0_ : (toR (dFuse (fromR d0) d1).1 d0.2.2.2.2.2.1 : Dref05Disk) = d0 := by first | rfl | (first | (rw [show dFuse (fromR d0) d1 = (fromR d0, wrongD (fromR d0)) from if_pos (by assumption), to_from]; done) | (rw [show dFuse (fromR d0) d1 = (fromR d0, 2) from by unfold dFuse; rw [if_neg (by assumption), if_pos (by assumption)], to_from]; done) | exact congrArg Prod.fst (show (toR (dFuse (fromR d0) d1).1 d0.2.2.2.2.2.1, (0 : Int)) = ((d0.1, d0.2.1, d0.2.2.1, d0.2.2.2.1, true, d1, d0.2.2.2.2.2.2), 0) from by unfold dFuse; rw [if_neg (by assumption), if_neg (by assumption)]; simp [toR, fromR]))
   refine ⟨?_, ?_⟩
   rotate_left
   · rw [hm0_]; exact (Ow.up w1_0 (hS_.1 _ (.head _)))
   all_goals (first | rfl | (first | (rw [show dFuse (fromR d0) d1 = (fromR d0, wrongD (fromR d0)) from if_pos (by assumption)] <;> rfl) | (rw [show dFuse (fromR d0) d1 = (fromR d0, 2) from by unfold dFuse; rw [if_neg (by assumption), if_pos (by assumption)]] <;> rfl) | (unfold dFuse; rw [if_neg (by assumption), if_neg (by assumption)])))
 · refine VC.skip (outN (VC.rs (VO.mv (VO.mv (VO.mv (VO.y rfl (.nilp rfl) (VO.y rfl (.fa rfl tst99 rfl) ?_)))))))
   obtain ⟨q4_E, q4_A1, q4_c1, q4_A2, q4_c2, q4_A3, q4_c3, q4_A4, q4_c4, q4_A5, q4_c5, q4_n1, q4_n2, q4_n3, q4_n4, q4_n5, _, q4_S, q4_1, q4_2, q4_3, q4_4, q4_5, q4_8, q4_9⟩ := openP_ref05Disk (x0 := d0.1) (x1 := d0.2.1.1) (x2 := d0.2.1.2.1) (x3 := d0.2.1.2.2.1) (x4 := d0.2.1.2.2.2) (x5 := d0.2.2.1) (x6 := d0.2.2.2.1) (x7 := d0.2.2.2.2.1) (x8 := d0.2.2.2.2.2.1) (x9 := d0.2.2.2.2.2.2) w1_0
   have q4_r1 := q4_1.rm
   have q4_r2 := q4_2.rm
   have q4_r3 := q4_3.rm
   have q4_r4 := q4_4.rm
   have q4_r5 := q4_5.rm
   simp only [inK] at q4_8 q4_9
   refine VO.inv _ (fun _ h => h.parts (i := 1) rfl q4_S [110, 105, 106, 107, 108, 109]) ?_
   refine VO.store (k := 1) 110 rfl rfl (.inr ⟨tk4, rfl⟩) rfl rfl rfl rfl rfl ?_
   refine VO.y rfl (.nilp rfl) (VO.y rfl (.fa rfl tst99 rfl) ?_)
   refine VO.store (k := 1) 110 rfl rfl (.inr ⟨tk3, rfl⟩) rfl rfl rfl rfl rfl ?_
   refine VO.clsP 111 [110, 105, 106, 107, 108, 109] rfl (fun hg11 => (mkP_ref05Disk d0.1 d0.2.1.1 d0.2.1.2.1 d0.2.1.2.2.1 d0.2.1.2.2.2 d0.2.2.1 d0.2.2.2.1 true d1 d0.2.2.2.2.2.2 hg11 (OwnL.ow (Ow.ownl q4_1 rfl mnil) rfl) (OwnL.ow (Ow.ownl q4_2 rfl mnil) rfl) (OwnL.ow (Ow.ownl q4_3 rfl mnil) rfl) (OwnL.ow (Ow.ownl q4_4 rfl mnil) rfl) q4_5 bdk bdk)) (fun mc11 ho11 => ?_)
   refine VO.k6 0 1 4 5 9 12 (VC.rs (VO.as ?_))
   refine VO.kp [111, 0] [(111, mc11), (0, mout (wm W) (m0))] ?_
   refine VO.k6 0 1 4 5 9 12 (VC.ret ?_)
   refine ⟨_, _, res_run (rs := [.tmp 4]) rfl (.tmp rfl .nil), fun W_ hI => out_of (l := [mc11]) hI [111] rfl rfl (mle_refl _) (fun hS_ => ?_)⟩
   dsimp only [packV]
   have hm0_ : (toR (dFuse (fromR d0) d1).1 d0.2.2.2.2.2.1 : Dref05Disk) = (d0.1, d0.2.1, d0.2.2.1, d0.2.2.2.1, true, d1, d0.2.2.2.2.2.2) := by first | rfl | (first | (rw [show dFuse (fromR d0) d1 = (fromR d0, wrongD (fromR d0)) from if_pos (by assumption), to_from]; done) | (rw [show dFuse (fromR d0) d1 = (fromR d0, 2) from by unfold dFuse; rw [if_neg (by assumption), if_pos (by assumption)], to_from]; done) | exact congrArg Prod.fst (show (toR (dFuse (fromR d0) d1).1 d0.2.2.2.2.2.1, (0 : Int)) = ((d0.1, d0.2.1, d0.2.2.1, d0.2.2.2.1, true, d1, d0.2.2.2.2.2.2), 0) from by unfold dFuse; rw [if_neg (by assumption), if_neg (by assumption)]; simp [toR, fromR]))
   refine ⟨?_, ?_⟩
   rotate_left
   · rw [hm0_]; exact (Ow.up ho11 (hS_.1 _ (.head _)))
   all_goals (first | rfl | (first | (rw [show dFuse (fromR d0) d1 = (fromR d0, wrongD (fromR d0)) from if_pos (by assumption)] <;> rfl) | (rw [show dFuse (fromR d0) d1 = (fromR d0, 2) from by unfold dFuse; rw [if_neg (by assumption), if_pos (by assumption)]] <;> rfl) | (unfold dFuse; rw [if_neg (by assumption), if_neg (by assumption)])))
theorem rPull_ok (W : World) {m0 : Mem} (hm : mle (m0) (wm W)) {g0 : Nat} {d0 : Dref05Disk} (h0 : Ow (.ptr Tref05Disk) m0 [.pointer (some ⟨g0, 0, none⟩)] (g0, d0)) (e0 : okR d0) : CallR Try.prog 47 [.pointer (some ⟨g0, 0, none⟩)] W (m0) (fun v m' => v = .int .i64 ((dPull (fromR d0)).2) ∧ Ow (.ptr Tref05Disk) m' [.pointer (some ⟨g0, 0, none⟩)] (g0, toR (dPull (fromR d0)).1 d0.2.2.2.2.2.1)) := by
 refine CallR.ofB (n := 12) hm Try.func47 rfl rfl rfl ?_
 refine VC.rs (VO.as (VO.k2 0 2 (VC.rs (VO.mv ?_))))
 refine VO.call 1 rfl fnOk77 rfl rfl (fun W hW => rAsked_ok W (hW.at (i := 1) rfl) h0) (fun v1 m1 hv1 => ?_)
 obtain ⟨rfl, w1_0⟩ := hv1
 refine VO.as (VO.k3 0 2 3 (VC.seq (VC.rs (VO.mv (VO.y rfl (.neq rfl rfl) ?_)))))
 refine VO.kp [1, 0] [(1, m1), (0, mout (wm W) (m0))] ?_
 refine VO.k4 0 2 3 7 ?_
 refine VC.cond rfl (fun hc2 => ?_) (fun hc2 => ?_)
 · refine VC.rs (VO.mv (VO.as (VO.k4 0 2 3 7 (VC.ret (outR ?_)))))
   refine ⟨_, _, res_run (rs := [.tmp 2]) rfl (.tmp rfl .nil), fun W_ hI => out_of (l := [m1]) hI [1] rfl rfl (mle_refl _) (fun hS_ => ?_)⟩
   dsimp only [packV]
   have hm0_ : (toR (dPull (fromR d0)).1 d0.2.2.2.2.2.1 : Dref05Disk) = d0 := by first | rfl | (first | (rw [show dPull (fromR d0) = (fromR d0, wrongD (fromR d0)) from if_pos (by assumption), to_from]; done) | exact rpull_go (by assumption))
   refine ⟨?_, ?_⟩
   rotate_left
   · rw [hm0_]; exact (Ow.up w1_0 (hS_.1 _ (.head _)))
   all_goals (first | rfl | (first | (rw [show dPull (fromR d0) = (fromR d0, wrongD (fromR d0)) from if_pos (by assumption)] <;> rfl) | (unfold dPull; rw [if_neg (by assumption)])))
 · refine VC.skip (outN (VC.rs (VO.mv (VO.y rfl (.nilp rfl) (VO.y rfl (.fa rfl tst99 rfl) ?_)))))
   obtain ⟨q3_E, q3_A1, q3_c1, q3_A2, q3_c2, q3_A3, q3_c3, q3_A4, q3_c4, q3_A5, q3_c5, q3_n1, q3_n2, q3_n3, q3_n4, q3_n5, _, q3_S, q3_1, q3_2, q3_3, q3_4, q3_5, q3_8, q3_9⟩ := openP_ref05Disk (x0 := d0.1) (x1 := d0.2.1.1) (x2 := d0.2.1.2.1) (x3 := d0.2.1.2.2.1) (x4 := d0.2.1.2.2.2) (x5 := d0.2.2.1) (x6 := d0.2.2.2.1) (x7 := d0.2.2.2.2.1) (x8 := d0.2.2.2.2.2.1) (x9 := d0.2.2.2.2.2.2) w1_0
   have q3_r1 := q3_1.rm
   have q3_r2 := q3_2.rm
   have q3_r3 := q3_3.rm
   have q3_r4 := q3_4.rm
   have q3_r5 := q3_5.rm
   simp only [inK] at q3_8 q3_9
   refine VO.inv _ (fun _ h => h.parts (i := 1) rfl q3_S [109, 104, 105, 106, 107, 108]) ?_
   refine VO.store (k := 1) 109 rfl rfl (.inr ⟨tk4, rfl⟩) rfl rfl rfl rfl rfl ?_
   refine VO.clsP 110 [109, 104, 105, 106, 107, 108] rfl (fun hg10 => (mkP_ref05Disk d0.1 d0.2.1.1 d0.2.1.2.1 d0.2.1.2.2.1 d0.2.1.2.2.2 d0.2.2.1 false d0.2.2.2.2.1 d0.2.2.2.2.2.1 d0.2.2.2.2.2.2 hg10 (OwnL.ow (Ow.ownl q3_1 rfl mnil) rfl) (OwnL.ow (Ow.ownl q3_2 rfl mnil) rfl) (OwnL.ow (Ow.ownl q3_3 rfl mnil) rfl) (OwnL.ow (Ow.ownl q3_4 rfl mnil) rfl) q3_5 bdk bdk)) (fun mc10 ho10 => ?_)
   refine VO.k4 0 2 3 7 (VC.rs (VO.as (VO.k4 0 2 3 7 (VC.ret ?_))))
   refine ⟨_, _, res_run (rs := [.tmp 2]) rfl (.tmp rfl .nil), fun W_ hI => out_of (l := [mc10]) hI [110] rfl rfl (mle_refl _) (fun hS_ => ?_)⟩
   dsimp only [packV]
   have hm0_ : (toR (dPull (fromR d0)).1 d0.2.2.2.2.2.1 : Dref05Disk) = (d0.1, d0.2.1, d0.2.2.1, false, d0.2.2.2.2) := by first | rfl | (first | (rw [show dPull (fromR d0) = (fromR d0, wrongD (fromR d0)) from if_pos (by assumption), to_from]; done) | exact rpull_go (by assumption))
   refine ⟨?_, ?_⟩
   rotate_left
   · rw [hm0_]; exact (Ow.up ho10 (hS_.1 _ (.head _)))
   all_goals (first | rfl | (first | (rw [show dPull (fromR d0) = (fromR d0, wrongD (fromR d0)) from if_pos (by assumption)] <;> rfl) | (unfold dPull; rw [if_neg (by assumption)])))
theorem rOn_ok (W : World) {m0 : Mem} (hm : mle (m0) (wm W)) {g0 : Nat} {d0 : Dref05Disk} (h0 : Ow (.ptr Tref05Disk) m0 [.pointer (some ⟨g0, 0, none⟩)] (g0, d0)) : CallR Try.prog 45 [.pointer (some ⟨g0, 0, none⟩)] W (m0) (fun v m' => v = .bool (decide ((fromR d0).1 = true ∧ (fromR d0).2.1 = false)) ∧ Ow (.ptr Tref05Disk) m' [.pointer (some ⟨g0, 0, none⟩)] (g0, d0)) := by
 refine CallR.ofB (n := 12) hm Try.func45 rfl rfl rfl ?_
 refine VC.rs (VO.as (VO.k2 0 2 (VC.rs (VO.mv ?_))))
 refine VO.call 1 rfl fnOk83 rfl rfl (fun W hW => rNone_ok W (hW.at (i := 1) rfl) h0) (fun v1 m1 hv1 => ?_)
 obtain ⟨rfl, w1_0⟩ := hv1
 refine VO.y rfl (.notD rfl) (VO.mv ?_)
 refine VO.dec (t := 6) rfl (fun hc2 => ?_) (fun hc2 => ?_)
 · refine VO.gy rfl ⟨_, rfl, rfl⟩ (.mv rfl) (VO.gy rfl ⟨_, rfl, rfl⟩ (.nilp rfl) ?_)
   refine VO.gy rfl ⟨_, rfl, rfl⟩ (.fa rfl tst99 rfl) ?_
   obtain ⟨q3_E, q3_A1, q3_c1, q3_A2, q3_c2, q3_A3, q3_c3, q3_A4, q3_c4, q3_A5, q3_c5, q3_n1, q3_n2, q3_n3, q3_n4, q3_n5, _, q3_S, q3_1, q3_2, q3_3, q3_4, q3_5, q3_8, q3_9⟩ := openP_ref05Disk (x0 := d0.1) (x1 := d0.2.1.1) (x2 := d0.2.1.2.1) (x3 := d0.2.1.2.2.1) (x4 := d0.2.1.2.2.2) (x5 := d0.2.2.1) (x6 := d0.2.2.2.1) (x7 := d0.2.2.2.2.1) (x8 := d0.2.2.2.2.2.1) (x9 := d0.2.2.2.2.2.2) w1_0
   have q3_r1 := q3_1.rm
   have q3_r2 := q3_2.rm
   have q3_r3 := q3_3.rm
   have q3_r4 := q3_4.rm
   have q3_r5 := q3_5.rm
   simp only [inK] at q3_8 q3_9
   refine VO.inv _ (fun _ h => h.parts (i := 1) rfl q3_S [109, 104, 105, 106, 107, 108]) ?_
   refine VO.gy rfl ⟨_, rfl, rfl⟩ (.ld1 109 rfl tk4 rfl (cellsAt_one rfl rfl)) ?_
   refine VO.y rfl (.pT rfl rfl) (VO.as ?_)
   refine VO.clsP 110 [109, 104, 105, 106, 107, 108] rfl (fun hg10 => (show Ow (.ptr Tref05Disk) _ _ (_, d0) from (mkP_ref05Disk d0.1 d0.2.1.1 d0.2.1.2.1 d0.2.1.2.2.1 d0.2.1.2.2.2 d0.2.2.1 d0.2.2.2.1 d0.2.2.2.2.1 d0.2.2.2.2.2.1 d0.2.2.2.2.2.2 hg10 (OwnL.ow (Ow.ownl q3_1 rfl mnil) rfl) (OwnL.ow (Ow.ownl q3_2 rfl mnil) rfl) (OwnL.ow (Ow.ownl q3_3 rfl mnil) rfl) (OwnL.ow (Ow.ownl q3_4 rfl mnil) rfl) q3_5 bdk bdk))) (fun mc10 ho10 => ?_)
   refine VO.k2 0 2 (VC.ret ?_)
   refine ⟨_, _, res_run (rs := [.tmp 2]) rfl (.tmp rfl .nil), fun W_ hI => out_of (l := [mc10]) hI [110] rfl rfl (mle_refl _) (fun hS_ => ?_)⟩
   dsimp only [packV]
   have hm0_ : (d0 : Dref05Disk) = d0 := by first | rfl | (simp [*]; done)
   refine ⟨?_, ?_⟩
   rotate_left
   · rw [hm0_]; exact (Ow.up ho10 (hS_.1 _ (.head _)))
   all_goals (first | rfl | (first | exact congrArg Value.bool (on_T (by assumption)) | exact congrArg Value.bool (on_F (by assumption))))
 · refine VO.gN (VO.gN (VO.gN (VO.gN (VO.y rfl (.pF rfl rfl) (VO.as (VO.k2 0 2 (VC.ret ?_)))))))
   refine ⟨_, _, res_run (rs := [.tmp 2]) rfl (.tmp rfl .nil), fun W_ hI => out_of (l := [m1]) hI [1] rfl rfl (mle_refl _) (fun hS_ => ?_)⟩
   dsimp only [packV]
   have hm0_ : (d0 : Dref05Disk) = d0 := by first | rfl | (simp [*]; done)
   refine ⟨?_, ?_⟩
   rotate_left
   · rw [hm0_]; exact (Ow.up w1_0 (hS_.1 _ (.head _)))
   all_goals (first | rfl | (first | exact congrArg Value.bool (on_T (by assumption)) | exact congrArg Value.bool (on_F (by assumption))))
theorem rSteps_ok (W : World) {m0 : Mem} (hm : mle (m0) (wm W)) {g0 : Nat} {d0 : Dref05Disk} (h0 : Ow (.ptr Tref05Disk) m0 [.pointer (some ⟨g0, 0, none⟩)] (g0, d0)) : CallR Try.prog 43 [.pointer (some ⟨g0, 0, none⟩)] W (m0) (fun v m' => v = .int .i64 (dSteps (fromR d0)) ∧ Ow (.ptr Tref05Disk) m' [.pointer (some ⟨g0, 0, none⟩)] (g0, d0)) := by
 refine CallR.ofB (n := 9) hm Try.func43 rfl rfl rfl ?_
 refine VC.rs (VO.as (VO.k2 0 2 (VC.seq (VC.rs (VO.mv ?_)))))
 refine VO.call 1 rfl fnOk83 rfl rfl (fun W hW => rNone_ok W (hW.at (i := 1) rfl) h0) (fun v1 m1 hv1 => ?_)
 obtain ⟨rfl, w1_0⟩ := hv1
 refine VO.k3 0 2 4 ?_
 refine VC.cond rfl (fun hc2 => ?_) (fun hc2 => ?_)
 · refine VC.rs (VO.as ?_)
   refine VO.kp [1, 0] [(1, m1), (0, mout (wm W) (m0))] ?_
   refine VO.k3 0 2 4 (VC.ret (outR ?_))
   refine ⟨_, _, res_run (rs := [.tmp 2]) rfl (.tmp rfl .nil), fun W_ hI => out_of (l := [m1]) hI [1] rfl rfl (mle_refl _) (fun hS_ => ?_)⟩
   dsimp only [packV]
   have hm0_ : (d0 : Dref05Disk) = d0 := by first | rfl | (simp [*]; done)
   refine ⟨?_, ?_⟩
   rotate_left
   · rw [hm0_]; exact (Ow.up w1_0 (hS_.1 _ (.head _)))
   all_goals (first | rfl | (first | (simp [dSteps, fromR, *]; done)))
 · refine VC.skip (outN (VC.rs (VO.mv (VO.y rfl (.nilp rfl) (VO.y rfl (.fa rfl tst99 rfl) ?_)))))
   obtain ⟨q3_E, q3_A1, q3_c1, q3_A2, q3_c2, q3_A3, q3_c3, q3_A4, q3_c4, q3_A5, q3_c5, q3_n1, q3_n2, q3_n3, q3_n4, q3_n5, _, q3_S, q3_1, q3_2, q3_3, q3_4, q3_5, q3_8, q3_9⟩ := openP_ref05Disk (x0 := d0.1) (x1 := d0.2.1.1) (x2 := d0.2.1.2.1) (x3 := d0.2.1.2.2.1) (x4 := d0.2.1.2.2.2) (x5 := d0.2.2.1) (x6 := d0.2.2.2.1) (x7 := d0.2.2.2.2.1) (x8 := d0.2.2.2.2.2.1) (x9 := d0.2.2.2.2.2.2) w1_0
   have q3_r1 := q3_1.rm
   have q3_r2 := q3_2.rm
   have q3_r3 := q3_3.rm
   have q3_r4 := q3_4.rm
   have q3_r5 := q3_5.rm
   simp only [inK] at q3_8 q3_9
   refine VO.inv _ (fun _ h => h.parts (i := 1) rfl q3_S [109, 104, 105, 106, 107, 108]) ?_
   refine VO.y rfl (.ld1 109 rfl tk3 rfl (cellsAt_one rfl rfl)) (VO.as ?_)
   refine VO.clsP 110 [109, 104, 105, 106, 107, 108] rfl (fun hg10 => (show Ow (.ptr Tref05Disk) _ _ (_, d0) from (mkP_ref05Disk d0.1 d0.2.1.1 d0.2.1.2.1 d0.2.1.2.2.1 d0.2.1.2.2.2 d0.2.2.1 d0.2.2.2.1 d0.2.2.2.2.1 d0.2.2.2.2.2.1 d0.2.2.2.2.2.2 hg10 (OwnL.ow (Ow.ownl q3_1 rfl mnil) rfl) (OwnL.ow (Ow.ownl q3_2 rfl mnil) rfl) (OwnL.ow (Ow.ownl q3_3 rfl mnil) rfl) (OwnL.ow (Ow.ownl q3_4 rfl mnil) rfl) q3_5 bdk bdk))) (fun mc10 ho10 => ?_)
   refine VO.kp [110, 0] [(110, mc10), (0, mout (wm W) (m0))] ?_
   refine VO.k3 0 2 4 (VC.ret ?_)
   refine ⟨_, _, res_run (rs := [.tmp 2]) rfl (.tmp rfl .nil), fun W_ hI => out_of (l := [mc10]) hI [110] rfl rfl (mle_refl _) (fun hS_ => ?_)⟩
   dsimp only [packV]
   have hm0_ : (d0 : Dref05Disk) = d0 := by first | rfl | (simp [*]; done)
   refine ⟨?_, ?_⟩
   rotate_left
   · rw [hm0_]; exact (Ow.up ho10 (hS_.1 _ (.head _)))
   all_goals (first | rfl | (first | (simp [dSteps, fromR, *]; done)))
theorem fin0_rDurable_ok {P : Prop} (h : P := by first | (rw [durable_go (d := fromR d0) (by assumption) (Decidable.not_not.2 (show inF d1 from ⟨by omega, by omega⟩)), getF0 ‹d1 = (0 : Int)›] <;> rfl) | (rw [durable_go (d := fromR d0) (by assumption) (Decidable.not_not.2 (show inF d1 from ⟨by omega, by omega⟩)), getF1 ‹d1 = (1 : Int)›] <;> rfl) | (rw [durable_go (d := fromR d0) (by assumption) (Decidable.not_not.2 (show inF d1 from ⟨by omega, by omega⟩)), getF2 ‹d1 = (2 : Int)›] <;> rfl) | (rw [durable_go (d := fromR d0) (by assumption) (Decidable.not_not.2 (show inF d1 from ⟨by omega, by omega⟩)), getF3 ‹d1 = (3 : Int)›] <;> rfl) | exact if_pos (.inl (by assumption)) | exact if_pos (.inr (fun q_ : inF d1 => by obtain ⟨q1_, q2_⟩ := q_; omega))) : P := h
theorem fin1_rDurable_ok {P : Prop} (h : P := by first | omega | (simp only [List.length_append, List.length_nil, List.length_cons, List.length_take, List.length_drop] at *; omega) | (simp only [wD, sizeQ, fromR, List.length_nil] at *; omega)) : P := h
theorem rDurable_ok (W : World) {m0 : Mem} (hm : mle (m0) (wm W)) {g0 : Nat} {d0 : Dref05Disk} (h0 : Ow (.ptr Tref05Disk) m0 [.pointer (some ⟨g0, 0, none⟩)] (g0, d0)) (d1 : Int) (h1 : inK .i64 d1) (e0 : wD (fromR d0) ≤ 1000000000000) : CallR Try.prog 50 [.pointer (some ⟨g0, 0, none⟩), .int .i64 d1] W (m0) (fun v m' => ∃ (s0 : Value), ∃ (p0 : Mem), ∃ (p1 : Mem), v = s0 ∧ Seps m' [p0, p1] ∧ Ow (.sl .byte) p0 [s0] (dDurable (fromR d0) d1) ∧ Ow (.ptr Tref05Disk) p1 [.pointer (some ⟨g0, 0, none⟩)] (g0, d0)) := by
 have h1' := h1; simp only [inK] at h1'
 refine CallR.ofB (n := 25) hm Try.func50 rfl rfl rfl ?_
 refine VC.rs (VO.as (VO.k3 0 1 4 (VC.rs (VO.as (VO.k4 0 1 4 5 (VC.seq (VC.rs (VO.mv ?_))))))))
 refine VO.call 1 rfl fnOk83 rfl rfl (fun W hW => rNone_ok W (hW.at (i := 1) rfl) h0) (fun v1 m1 hv1 => ?_)
 obtain ⟨rfl, w1_0⟩ := hv1
 refine VO.mv ?_
 refine VO.dec (t := 8) rfl (fun hc2 => ?_) (fun hc2 => ?_)
 · refine VO.gN (VO.gN (VO.y rfl (.pT rfl rfl) (VO.mv (VO.gN (VO.gN (VO.y rfl (.pT rfl rfl) ?_))))))
   refine VO.kp [1, 0] [(1, m1), (0, mout (wm W) (m0))] ?_
   refine VO.k5 0 1 4 5 15 (VC.condT rfl (VC.rs (VO.mv (VO.as (VO.k5 0 1 4 5 15 (VC.ret (outR ?_)))))))
   refine ⟨_, _, res_run (rs := [.tmp 4]) rfl (.tmp rfl .nil), fun W_ hI => out_of (l := [m1]) hI [1] rfl rfl (mle_refl _) (fun hS_ => ?_)⟩
   dsimp only [packV]
   have he0 : (dDurable (fromR d0) d1 : Ty.Den (.sl .byte)) = [] := by first | rfl | (exact fin0_rDurable_ok)
   have hm0_ : (d0 : Dref05Disk) = d0 := by first | rfl | (exact fin0_rDurable_ok)
   refine ⟨Value.slice none (0) (0), muns [], muns [m1], ?_, ?_, ?_, ?_⟩
   rotate_left
   · exact Seps.grp (ls := [[], [m1]]) hS_
   · rw [he0]; exact (Ow.nil _ _)
   · rw [hm0_]; exact (Ow.up w1_0 ((Seps.self hS_ (List.Sublist.cons_cons _ List.Sublist.slnil)).1 _ (.head _)))
   all_goals (first | rfl | (simp [*]; done))
 refine VO.gy rfl ⟨_, rfl, rfl⟩ (.mv rfl) (VO.gy rfl ⟨_, rfl, rfl⟩ (.lss rfl rfl) (VO.y rfl (.pF rfl rfl) (VO.mv ?_)))
 refine VO.dec (t := 12) rfl (fun hc3 => ?_) (fun hc3 => ?_)
 · refine VO.gN (VO.gN (VO.y rfl (.pT rfl rfl) ?_))
   refine VO.kp [1, 0] [(1, m1), (0, mout (wm W) (m0))] ?_
   refine VO.k5 0 1 4 5 15 (VC.condT rfl (VC.rs (VO.mv (VO.as (VO.k5 0 1 4 5 15 (VC.ret (outR ?_)))))))
   refine ⟨_, _, res_run (rs := [.tmp 4]) rfl (.tmp rfl .nil), fun W_ hI => out_of (l := [m1]) hI [1] rfl rfl (mle_refl _) (fun hS_ => ?_)⟩
   dsimp only [packV]
   have he0 : (dDurable (fromR d0) d1 : Ty.Den (.sl .byte)) = [] := by first | rfl | (exact fin0_rDurable_ok)
   have hm0_ : (d0 : Dref05Disk) = d0 := by first | rfl | (exact fin0_rDurable_ok)
   refine ⟨Value.slice none (0) (0), muns [], muns [m1], ?_, ?_, ?_, ?_⟩
   rotate_left
   · exact Seps.grp (ls := [[], [m1]]) hS_
   · rw [he0]; exact (Ow.nil _ _)
   · rw [hm0_]; exact (Ow.up w1_0 ((Seps.self hS_ (List.Sublist.cons_cons _ List.Sublist.slnil)).1 _ (.head _)))
   all_goals (first | rfl | (simp [*]; done))
 refine VO.gy rfl ⟨_, rfl, rfl⟩ (.mv rfl) (VO.gy rfl ⟨_, rfl, rfl⟩ (.geq rfl rfl) (VO.y rfl (.pF rfl rfl) ?_))
 refine VO.kp [1, 0] [(1, m1), (0, mout (wm W) (m0))] ?_
 refine VO.k5 0 1 4 5 15 ?_
 refine VC.cond rfl (fun hc4 => ?_) (fun hc4 => ?_)
 · refine VC.rs (VO.mv (VO.as (VO.k5 0 1 4 5 15 (VC.ret (outR ?_)))))
   refine ⟨_, _, res_run (rs := [.tmp 4]) rfl (.tmp rfl .nil), fun W_ hI => out_of (l := [m1]) hI [1] rfl rfl (mle_refl _) (fun hS_ => ?_)⟩
   dsimp only [packV]
   have he0 : (dDurable (fromR d0) d1 : Ty.Den (.sl .byte)) = [] := by first | rfl | (exact fin0_rDurable_ok)
   have hm0_ : (d0 : Dref05Disk) = d0 := by first | rfl | (exact fin0_rDurable_ok)
   refine ⟨Value.slice none (0) (0), muns [], muns [m1], ?_, ?_, ?_, ?_⟩
   rotate_left
   · exact Seps.grp (ls := [[], [m1]]) hS_
   · rw [he0]; exact (Ow.nil _ _)
   · rw [hm0_]; exact (Ow.up w1_0 ((Seps.self hS_ (List.Sublist.cons_cons _ List.Sublist.slnil)).1 _ (.head _)))
   all_goals (first | rfl | (simp [*]; done))
 refine VC.skip (outN (VC.rs (VO.mv (VO.mv (VO.mv (VO.y rfl (.nilp rfl) (VO.y rfl (.fa rfl tst99 rfl) ?_)))))))
 rcases (show d1 = (0 : Int) ∨ d1 = (1 : Int) ∨ d1 = (2 : Int) ∨ d1 = (3 : Int) from by exact fin1_rDurable_ok) with hi5 | hi5 | hi5 | hi5
 · refine VO.y rfl (.ixa (i := 0) (o := 1) rfl rfl tar69 hi5 rfl rfl) ?_
   obtain ⟨q6_E, q6_A1, q6_c1, q6_A2, q6_c2, q6_A3, q6_c3, q6_A4, q6_c4, q6_A5, q6_c5, q6_n1, q6_n2, q6_n3, q6_n4, q6_n5, _, q6_S, q6_1, q6_2, q6_3, q6_4, q6_5, q6_8, q6_9⟩ := openP_ref05Disk (x0 := d0.1) (x1 := d0.2.1.1) (x2 := d0.2.1.2.1) (x3 := d0.2.1.2.2.1) (x4 := d0.2.1.2.2.2) (x5 := d0.2.2.1) (x6 := d0.2.2.2.1) (x7 := d0.2.2.2.2.1) (x8 := d0.2.2.2.2.2.1) (x9 := d0.2.2.2.2.2.2) w1_0
   have q6_r1 := q6_1.rm
   have q6_r2 := q6_2.rm
   have q6_r3 := q6_3.rm
   have q6_r4 := q6_4.rm
   have q6_r5 := q6_5.rm
   simp only [inK] at q6_8 q6_9
   refine VO.inv _ (fun _ h => h.parts (i := 1) rfl q6_S [112, 107, 108, 109, 110, 111]) ?_
   refine VO.y rfl (.ld1 112 rfl tk25 rfl (cellsAt_one rfl rfl)) ?_
   refine VO.inv _ (fun _ h => h.nilc 114) ?_
   obtain ⟨mo13, cs13, hM13, hA13, hC13⟩ := (OwnL.nil .byte mnil mnil)
   obtain ⟨all13, hS13, hR13⟩ := Rd.srcI (P := Try.prog) ((OwnL.rd (Ow.ownl q6_1 rfl mnil) (mle_refl _) (mle_nil _))) Try.underlying25
   refine VO.app 114 rfl rfl rfl tsl25 tz5 rfl rfl hM13 hA13 (hS13 _ 107 rfl) hR13.nice (by simp only [maxLen]; (exact fin1_rDurable_ok)) (by exact fin1_rDurable_ok) (by decide) (fun v13 m13 hN13 => ?_)
   have ho13 : OwnL .byte m13 mnil v13 (d0.2.1.1) := OwnL.more hC13 hN13 (All2c.mono hR13 fun _ _ h => Rd.flat rfl h _)
   obtain ⟨A13, c13, rfl, l13, k13⟩ := ho13.slice
   simp only [maxLen] at k13
   refine VO.as ?_
   refine VO.clsP 115 [112, 107, 108, 109, 110, 111] rfl (fun hg15 => (show Ow (.ptr Tref05Disk) _ _ (_, d0) from (mkP_ref05Disk d0.1 d0.2.1.1 d0.2.1.2.1 d0.2.1.2.2.1 d0.2.1.2.2.2 d0.2.2.1 d0.2.2.2.1 d0.2.2.2.2.1 d0.2.2.2.2.2.1 d0.2.2.2.2.2.2 hg15 (OwnL.ow (Ow.ownl q6_1 rfl mnil) rfl) (OwnL.ow (Ow.ownl q6_2 rfl mnil) rfl) (OwnL.ow (Ow.ownl q6_3 rfl mnil) rfl) (OwnL.ow (Ow.ownl q6_4 rfl mnil) rfl) q6_5 (by simp only [inK]; (exact fin1_rDurable_ok)) (by simp only [inK]; (exact fin1_rDurable_ok))))) (fun mc15 ho15 => ?_)
   refine VO.k5 0 1 4 5 15 (VC.ret ?_)
   refine ⟨_, _, res_run (rs := [.tmp 4]) rfl (.tmp rfl .nil), fun W_ hI => out_of (l := [m13, mc15]) hI [114, 115] rfl rfl (mle_refl _) (fun hS_ => ?_)⟩
   dsimp only [packV]
   have he0 : (dDurable (fromR d0) d1 : Ty.Den (.sl .byte)) = d0.2.1.1 := by first | rfl | (exact fin0_rDurable_ok)
   have hm0_ : (d0 : Dref05Disk) = d0 := by first | rfl | (exact fin0_rDurable_ok)
   refine ⟨Value.slice A13 ((d0.2.1.1).length) (c13), muns [m13], muns [mc15], ?_, ?_, ?_, ?_⟩
   rotate_left
   · exact Seps.grp (ls := [[m13], [mc15]]) hS_
   · rw [he0]; exact (Ow.up (OwnL.ow ho13 rfl) ((Seps.self hS_ (List.Sublist.cons_cons _ (List.Sublist.cons _ List.Sublist.slnil))).1 _ (.head _)))
   · rw [hm0_]; exact (Ow.up ho15 ((Seps.self hS_ (List.Sublist.cons _ (List.Sublist.cons_cons _ List.Sublist.slnil))).1 _ (.head _)))
   all_goals (first | rfl | (simp [*]; done))
 · refine VO.y rfl (.ixa (i := 1) (o := 2) rfl rfl tar69 hi5 rfl rfl) ?_
   obtain ⟨q16_E, q16_A1, q16_c1, q16_A2, q16_c2, q16_A3, q16_c3, q16_A4, q16_c4, q16_A5, q16_c5, q16_n1, q16_n2, q16_n3, q16_n4, q16_n5, _, q16_S, q16_1, q16_2, q16_3, q16_4, q16_5, q16_8, q16_9⟩ := openP_ref05Disk (x0 := d0.1) (x1 := d0.2.1.1) (x2 := d0.2.1.2.1) (x3 := d0.2.1.2.2.1) (x4 := d0.2.1.2.2.2) (x5 := d0.2.2.1) (x6 := d0.2.2.2.1) (x7 := d0.2.2.2.2.1) (x8 := d0.2.2.2.2.2.1) (x9 := d0.2.2.2.2.2.2) w1_0
   have q16_r1 := q16_1.rm
   have q16_r2 := q16_2.rm
   have q16_r3 := q16_3.rm
   have q16_r4 := q16_4.rm
   have q16_r5 := q16_5.rm
   simp only [inK] at q16_8 q16_9
   refine VO.inv _ (fun _ h => h.parts (i := 1) rfl q16_S [122, 117, 118, 119, 120, 121]) ?_
   refine VO.y rfl (.ld1 122 rfl tk25 rfl (cellsAt_one rfl rfl)) ?_
   refine VO.inv _ (fun _ h => h.nilc 124) ?_
   obtain ⟨mo23, cs23, hM23, hA23, hC23⟩ := (OwnL.nil .byte mnil mnil)
   obtain ⟨all23, hS23, hR23⟩ := Rd.srcI (P := Try.prog) ((OwnL.rd (Ow.ownl q16_2 rfl mnil) (mle_refl _) (mle_nil _))) Try.underlying25
   refine VO.app 124 rfl rfl rfl tsl25 tz5 rfl rfl hM23 hA23 (hS23 _ 118 rfl) hR23.nice (by simp only [maxLen]; (exact fin1_rDurable_ok)) (by exact fin1_rDurable_ok) (by decide) (fun v23 m23 hN23 => ?_)
   have ho23 : OwnL .byte m23 mnil v23 (d0.2.1.2.1) := OwnL.more hC23 hN23 (All2c.mono hR23 fun _ _ h => Rd.flat rfl h _)
   obtain ⟨A23, c23, rfl, l23, k23⟩ := ho23.slice
   simp only [maxLen] at k23
   refine VO.as ?_
   refine VO.clsP 125 [122, 117, 118, 119, 120, 121] rfl (fun hg25 => (show Ow (.ptr Tref05Disk) _ _ (_, d0) from (mkP_ref05Disk d0.1 d0.2.1.1 d0.2.1.2.1 d0.2.1.2.2.1 d0.2.1.2.2.2 d0.2.2.1 d0.2.2.2.1 d0.2.2.2.2.1 d0.2.2.2.2.2.1 d0.2.2.2.2.2.2 hg25 (OwnL.ow (Ow.ownl q16_1 rfl mnil) rfl) (OwnL.ow (Ow.ownl q16_2 rfl mnil) rfl) (OwnL.ow (Ow.ownl q16_3 rfl mnil) rfl) (OwnL.ow (Ow.ownl q16_4 rfl mnil) rfl) q16_5 (by simp only [inK]; (exact fin1_rDurable_ok)) (by simp only [inK]; (exact fin1_rDurable_ok))))) (fun mc25 ho25 => ?_)
   refine VO.k5 0 1 4 5 15 (VC.ret ?_)
   refine ⟨_, _, res_run (rs := [.tmp 4]) rfl (.tmp rfl .nil), fun W_ hI => out_of (l := [m23, mc25]) hI [124, 125] rfl rfl (mle_refl _) (fun hS_ => ?_)⟩
   dsimp only [packV]
   have he0 : (dDurable (fromR d0) d1 : Ty.Den (.sl .byte)) = d0.2.1.2.1 := by first | rfl | (exact fin0_rDurable_ok)
   have hm0_ : (d0 : Dref05Disk) = d0 := by first | rfl | (exact fin0_rDurable_ok)
   refine ⟨Value.slice A23 ((d0.2.1.2.1).length) (c23), muns [m23], muns [mc25], ?_, ?_, ?_, ?_⟩
   rotate_left
   · exact Seps.grp (ls := [[m23], [mc25]]) hS_
   · rw [he0]; exact (Ow.up (OwnL.ow ho23 rfl) ((Seps.self hS_ (List.Sublist.cons_cons _ (List.Sublist.cons _ List.Sublist.slnil))).1 _ (.head _)))
   · rw [hm0_]; exact (Ow.up ho25 ((Seps.self hS_ (List.Sublist.cons _ (List.Sublist.cons_cons _ List.Sublist.slnil))).1 _ (.head _)))
   all_goals (first | rfl | (simp [*]; done))
 · refine VO.y rfl (.ixa (i := 2) (o := 3) rfl rfl tar69 hi5 rfl rfl) ?_
   obtain ⟨q26_E, q26_A1, q26_c1, q26_A2, q26_c2, q26_A3, q26_c3, q26_A4, q26_c4, q26_A5, q26_c5, q26_n1, q26_n2, q26_n3, q26_n4, q26_n5, _, q26_S, q26_1, q26_2, q26_3, q26_4, q26_5, q26_8, q26_9⟩ := openP_ref05Disk (x0 := d0.1) (x1 := d0.2.1.1) (x2 := d0.2.1.2.1) (x3 := d0.2.1.2.2.1) (x4 := d0.2.1.2.2.2) (x5 := d0.2.2.1) (x6 := d0.2.2.2.1) (x7 := d0.2.2.2.2.1) (x8 := d0.2.2.2.2.2.1) (x9 := d0.2.2.2.2.2.2) w1_0
   have q26_r1 := q26_1.rm
   have q26_r2 := q26_2.rm
   have q26_r3 := q26_3.rm
   have q26_r4 := q26_4.rm
   have q26_r5 := q26_5.rm
   simp only [inK] at q26_8 q26_9
   refine VO.inv _ (fun _ h => h.parts (i := 1) rfl q26_S [132, 127, 128, 129, 130, 131]) ?_
   refine VO.y rfl (.ld1 132 rfl tk25 rfl (cellsAt_one rfl rfl)) ?_
   refine VO.inv _ (fun _ h => h.nilc 134) ?_
   obtain ⟨mo33, cs33, hM33, hA33, hC33⟩ := (OwnL.nil .byte mnil mnil)
   obtain ⟨all33, hS33, hR33⟩ := Rd.srcI (P := Try.prog) ((OwnL.rd (Ow.ownl q26_3 rfl mnil) (mle_refl _) (mle_nil _))) Try.underlying25
   refine VO.app 134 rfl rfl rfl tsl25 tz5 rfl rfl hM33 hA33 (hS33 _ 129 rfl) hR33.nice (by simp only [maxLen]; (exact fin1_rDurable_ok)) (by exact fin1_rDurable_ok) (by decide) (fun v33 m33 hN33 => ?_)
   have ho33 : OwnL .byte m33 mnil v33 (d0.2.1.2.2.1) := OwnL.more hC33 hN33 (All2c.mono hR33 fun _ _ h => Rd.flat rfl h _)
   obtain ⟨A33, c33, rfl, l33, k33⟩ := ho33.slice
   simp only [maxLen] at k33
   refine VO.as ?_
   refine VO.clsP 135 [132, 127, 128, 129, 130, 131] rfl (fun hg35 => (show Ow (.ptr Tref05Disk) _ _ (_, d0) from (mkP_ref05Disk d0.1 d0.2.1.1 d0.2.1.2.1 d0.2.1.2.2.1 d0.2.1.2.2.2 d0.2.2.1 d0.2.2.2.1 d0.2.2.2.2.1 d0.2.2.2.2.2.1 d0.2.2.2.2.2.2 hg35 (OwnL.ow (Ow.ownl q26_1 rfl mnil) rfl) (OwnL.ow (Ow.ownl q26_2 rfl mnil) rfl) (OwnL.ow (Ow.ownl q26_3 rfl mnil) rfl) (OwnL.ow (Ow.ownl q26_4 rfl mnil) rfl) q26_5 (by simp only [inK]; (exact fin1_rDurable_ok)) (by simp only [inK]; (exact fin1_rDurable_ok))))) (fun mc35 ho35 => ?_)
   refine VO.k5 0 1 4 5 15 (VC.ret ?_)
   refine ⟨_, _, res_run (rs := [.tmp 4]) rfl (.tmp rfl .nil), fun W_ hI => out_of (l := [m33, mc35]) hI [134, 135] rfl rfl (mle_refl _) (fun hS_ => ?_)⟩
   dsimp only [packV]
   have he0 : (dDurable (fromR d0) d1 : Ty.Den (.sl .byte)) = d0.2.1.2.2.1 := by first | rfl | (exact fin0_rDurable_ok)
   have hm0_ : (d0 : Dref05Disk) = d0 := by first | rfl | (exact fin0_rDurable_ok)
   refine ⟨Value.slice A33 ((d0.2.1.2.2.1).length) (c33), muns [m33], muns [mc35], ?_, ?_, ?_, ?_⟩
   rotate_left
   · exact Seps.grp (ls := [[m33], [mc35]]) hS_
   · rw [he0]; exact (Ow.up (OwnL.ow ho33 rfl) ((Seps.self hS_ (List.Sublist.cons_cons _ (List.Sublist.cons _ List.Sublist.slnil))).1 _ (.head _)))
   · rw [hm0_]; exact (Ow.up ho35 ((Seps.self hS_ (List.Sublist.cons _ (List.Sublist.cons_cons _ List.Sublist.slnil))).1 _ (.head _)))
   all_goals (first | rfl | (simp [*]; done))
 · refine VO.y rfl (.ixa (i := 3) (o := 4) rfl rfl tar69 hi5 rfl rfl) ?_
   obtain ⟨q36_E, q36_A1, q36_c1, q36_A2, q36_c2, q36_A3, q36_c3, q36_A4, q36_c4, q36_A5, q36_c5, q36_n1, q36_n2, q36_n3, q36_n4, q36_n5, _, q36_S, q36_1, q36_2, q36_3, q36_4, q36_5, q36_8, q36_9⟩ := openP_ref05Disk (x0 := d0.1) (x1 := d0.2.1.1) (x2 := d0.2.1.2.1) (x3 := d0.2.1.2.2.1) (x4 := d0.2.1.2.2.2) (x5 := d0.2.2.1) (x6 := d0.2.2.2.1) (x7 := d0.2.2.2.2.1) (x8 := d0.2.2.2.2.2.1) (x9 := d0.2.2.2.2.2.2) w1_0
   have q36_r1 := q36_1.rm
   have q36_r2 := q36_2.rm
   have q36_r3 := q36_3.rm
   have q36_r4 := q36_4.rm
   have q36_r5 := q36_5.rm
   simp only [inK] at q36_8 q36_9
   refine VO.inv _ (fun _ h => h.parts (i := 1) rfl q36_S [142, 137, 138, 139, 140, 141]) ?_
   refine VO.y rfl (.ld1 142 rfl tk25 rfl (cellsAt_one rfl rfl)) ?_
   refine VO.inv _ (fun _ h => h.nilc 144) ?_
   obtain ⟨mo43, cs43, hM43, hA43, hC43⟩ := (OwnL.nil .byte mnil mnil)
   obtain ⟨all43, hS43, hR43⟩ := Rd.srcI (P := Try.prog) ((OwnL.rd (Ow.ownl q36_4 rfl mnil) (mle_refl _) (mle_nil _))) Try.underlying25
   refine VO.app 144 rfl rfl rfl tsl25 tz5 rfl rfl hM43 hA43 (hS43 _ 140 rfl) hR43.nice (by simp only [maxLen]; (exact fin1_rDurable_ok)) (by exact fin1_rDurable_ok) (by decide) (fun v43 m43 hN43 => ?_)
   have ho43 : OwnL .byte m43 mnil v43 (d0.2.1.2.2.2) := OwnL.more hC43 hN43 (All2c.mono hR43 fun _ _ h => Rd.flat rfl h _)
   obtain ⟨A43, c43, rfl, l43, k43⟩ := ho43.slice
   simp only [maxLen] at k43
   refine VO.as ?_
   refine VO.clsP 145 [142, 137, 138, 139, 140, 141] rfl (fun hg45 => (show Ow (.ptr Tref05Disk) _ _ (_, d0) from (mkP_ref05Disk d0.1 d0.2.1.1 d0.2.1.2.1 d0.2.1.2.2.1 d0.2.1.2.2.2 d0.2.2.1 d0.2.2.2.1 d0.2.2.2.2.1 d0.2.2.2.2.2.1 d0.2.2.2.2.2.2 hg45 (OwnL.ow (Ow.ownl q36_1 rfl mnil) rfl) (OwnL.ow (Ow.ownl q36_2 rfl mnil) rfl) (OwnL.ow (Ow.ownl q36_3 rfl mnil) rfl) (OwnL.ow (Ow.ownl q36_4 rfl mnil) rfl) q36_5 (by simp only [inK]; (exact fin1_rDurable_ok)) (by simp only [inK]; (exact fin1_rDurable_ok))))) (fun mc45 ho45 => ?_)
   refine VO.k5 0 1 4 5 15 (VC.ret ?_)
   refine ⟨_, _, res_run (rs := [.tmp 4]) rfl (.tmp rfl .nil), fun W_ hI => out_of (l := [m43, mc45]) hI [144, 145] rfl rfl (mle_refl _) (fun hS_ => ?_)⟩
   dsimp only [packV]
   have he0 : (dDurable (fromR d0) d1 : Ty.Den (.sl .byte)) = d0.2.1.2.2.2 := by first | rfl | (exact fin0_rDurable_ok)
   have hm0_ : (d0 : Dref05Disk) = d0 := by first | rfl | (exact fin0_rDurable_ok)
   refine ⟨Value.slice A43 ((d0.2.1.2.2.2).length) (c43), muns [m43], muns [mc45], ?_, ?_, ?_, ?_⟩
   rotate_left
   · exact Seps.grp (ls := [[m43], [mc45]]) hS_
   · rw [he0]; exact (Ow.up (OwnL.ow ho43 rfl) ((Seps.self hS_ (List.Sublist.cons_cons _ (List.Sublist.cons _ List.Sublist.slnil))).1 _ (.head _)))
   · rw [hm0_]; exact (Ow.up ho45 ((Seps.self hS_ (List.Sublist.cons _ (List.Sublist.cons_cons _ List.Sublist.slnil))).1 _ (.head _)))
   all_goals (first | rfl | (simp [*]; done))
theorem fin0_rStart_ok {P : Prop} (h : P := by first | (rw [start_bad1 (by assumption), to_from]; done) | (rw [start_bad2 (by assumption) (.inl (is_on (by assumption))), to_from]; done) | (rw [start_bad2 (by assumption) (.inr (.inl (by assumption))), to_from]; done) | (rw [start_bad2 (by assumption) (.inr (.inr (by assumption))), to_from]; done) | (rw [(rstart_go (r := d0) (k := d1) (t := d2) (by assumption) (by assumption) (by assumption) (by assumption)).1, rtorn_nil (by omega) (by simp only [rkeep_wait] at *; omega)]; exact rstart_tail rfl) | (rw [(rstart_go (r := d0) (k := d1) (t := d2) (by assumption) (by assumption) (by assumption) (by assumption)).1, rtorn_no (by omega) (by have h_ := ‹_[d1.toNat]? = some _›; rw [rkeep_wait] at h_; exact h_) (by assumption)]; exact rstart_tail rfl) | (rw [(rstart_go (r := d0) (k := d1) (t := d2) (by assumption) (by assumption) (by assumption) (by assumption)).1, rtorn_yes (by omega) (by have h_ := ‹_[d1.toNat]? = some _›; rw [rkeep_wait] at h_; exact h_) (by assumption), setQ0 ‹_ = (0 : Int)›, getF0 ‹_ = (0 : Int)›]; exact rstart_tail rfl) | (rw [(rstart_go (r := d0) (k := d1) (t := d2) (by assumption) (by assumption) (by assumption) (by assumption)).1, rtorn_yes (by omega) (by have h_ := ‹_[d1.toNat]? = some _›; rw [rkeep_wait] at h_; exact h_) (by assumption), setQ1 ‹_ = (1 : Int)›, getF1 ‹_ = (1 : Int)›]; exact rstart_tail rfl) | (rw [(rstart_go (r := d0) (k := d1) (t := d2) (by assumption) (by assumption) (by assumption) (by assumption)).1, rtorn_yes (by omega) (by have h_ := ‹_[d1.toNat]? = some _›; rw [rkeep_wait] at h_; exact h_) (by assumption), setQ2 ‹_ = (2 : Int)›, getF2 ‹_ = (2 : Int)›]; exact rstart_tail rfl) | (rw [(rstart_go (r := d0) (k := d1) (t := d2) (by assumption) (by assumption) (by assumption) (by assumption)).1, rtorn_yes (by omega) (by have h_ := ‹_[d1.toNat]? = some _›; rw [rkeep_wait] at h_; exact h_) (by assumption), setQ3 ‹_ = (3 : Int)›, getF3 ‹_ = (3 : Int)›]; exact rstart_tail rfl)) : P := h
theorem fin1_rStart_ok {P : Prop} (h : P := by first | (rw [start_bad1 (by assumption)] <;> rfl) | (rw [start_bad2 (by assumption) (.inl (is_on (by assumption)))] <;> rfl) | (rw [start_bad2 (by assumption) (.inr (.inl (by assumption)))] <;> rfl) | (rw [start_bad2 (by assumption) (.inr (.inr (by assumption)))] <;> rfl) | (rw [(rstart_go (r := d0) (k := d1) (t := d2) (by assumption) (by assumption) (by assumption) (by assumption)).2] <;> rfl)) : P := h
theorem fin3_rStart_ok {P : Prop} (h : P := by first | omega | (simp only [List.length_append, List.length_nil, List.length_cons, List.length_take, List.length_drop] at *; omega) | (have h_ := ‹_[d1.toNat]? = some _›; rw [rkeep_wait] at h_; have h2_ := rstart_good e0 h_; have h3_ := h2_.2.1 (by first | assumption | simpa using ‹_›); simp only [inF] at h2_; omega)) : P := h
set_option maxHeartbeats 4000000 in
theorem rStart_ok (W : World) {m0 : Mem} (hm : mle (m0) (wm W)) {g0 : Nat} {d0 : Dref05Disk} (h0 : Ow (.ptr Tref05Disk) m0 [.pointer (some ⟨g0, 0, none⟩)] (g0, d0)) (d1 : Int) (h1 : inK .i64 d1) (d2 : Int) (h2 : inK .i64 d2) (e0 : okR d0) (e1 : wD (fromR d0) ≤ 1000000000000) : CallR Try.prog 49 [.pointer (some ⟨g0, 0, none⟩), .int .i64 d1, .int .i64 d2] W (m0) (fun v m' => v = .int .i64 ((dStart (fromR d0) d1 d2).2) ∧ Ow (.ptr Tref05Disk) m' [.pointer (some ⟨g0, 0, none⟩)] (g0, toR (dStart (fromR d0) d1 d2).1 d0.2.2.2.2.2.1)) := by
  have h1' := h1; simp only [inK] at h1'
  have h2' := h2; simp only [inK] at h2'
  refine CallR.ofB (n := 87) hm Try.func49 rfl rfl rfl ?_
  refine VC.rs ?_
  refine VO.as ?_
  refine VO.k4 0 1 2 6 ?_
  refine VC.seq ?_
  refine VC.rs ?_
  refine VO.mv ?_
  refine VO.call 1 rfl fnOk83 rfl rfl (fun W hW => rNone_ok W (hW.at (i := 1) rfl) h0) (fun v1 m1 hv1 => ?_)
  obtain ⟨rfl, w1_0⟩ := hv1
  refine VO.k5 0 1 2 6 10 ?_
  refine VC.cond rfl (fun hc2 => ?_) (fun hc2 => ?_)
  · -- T
    refine VC.rs ?_
    refine VO.as ?_
    refine VO.kp [1, 0] [(1, m1), (0, mout (wm W) (m0))] ?_
    refine VO.k5 0 1 2 6 10 ?_
    refine VC.ret ?_
    refine outR ?_
    refine ⟨_, _, res_run (rs := [.tmp 6]) rfl (.tmp rfl .nil), fun W_ hI => out_of (l := [m1]) hI [1] rfl rfl (mle_refl _) (fun hS_ => ?_)⟩
    dsimp only [packV]
    have hm0_ : (toR (dStart (fromR d0) d1 d2).1 d0.2.2.2.2.2.1 : Dref05Disk) = d0 := by first | rfl | (exact fin0_rStart_ok)
    refine ⟨?_, ?_⟩
    rotate_left
    · rw [hm0_]; exact (Ow.up w1_0 (hS_.1 _ (.head _)))
    all_goals (first | rfl | (exact fin1_rStart_ok))
  · -- F
    refine VC.skip ?_
    refine outN ?_
    refine VC.seq ?_
    refine VC.rs ?_
    refine VO.mv ?_
    refine VO.y rfl (.nilp rfl) ?_
    refine VO.y rfl (.fa rfl tst99 rfl) ?_
    obtain ⟨q3_E, q3_A1, q3_c1, q3_A2, q3_c2, q3_A3, q3_c3, q3_A4, q3_c4, q3_A5, q3_c5, q3_n1, q3_n2, q3_n3, q3_n4, q3_n5, _, q3_S, q3_1, q3_2, q3_3, q3_4, q3_5, q3_8, q3_9⟩ := openP_ref05Disk (x0 := d0.1) (x1 := d0.2.1.1) (x2 := d0.2.1.2.1) (x3 := d0.2.1.2.2.1) (x4 := d0.2.1.2.2.2) (x5 := d0.2.2.1) (x6 := d0.2.2.2.1) (x7 := d0.2.2.2.2.1) (x8 := d0.2.2.2.2.2.1) (x9 := d0.2.2.2.2.2.2) w1_0
    have q3_r1 := q3_1.rm
    have q3_r2 := q3_2.rm
    have q3_r3 := q3_3.rm
    have q3_r4 := q3_4.rm
    have q3_r5 := q3_5.rm
    simp only [inK] at q3_8
    simp only [inK] at q3_9
    refine VO.inv _ (fun _ h => h.parts (i := 1) rfl q3_S [109, 104, 105, 106, 107, 108]) ?_
    refine VO.y rfl (.ld1 109 rfl tk4 rfl (cellsAt_one rfl rfl)) ?_
    refine VO.mv ?_
    refine VO.decB (t := 15) rfl (fun hc10 => ?_) (fun hc10 => ?_)
    · -- FT
      refine VO.gN ?_
      refine VO.gN ?_
      refine VO.y rfl (.pT rfl rfl) ?_
      refine VO.mv ?_
      refine VO.gN ?_
      refine VO.gN ?_
      refine VO.y rfl (.pT rfl rfl) ?_
      refine VO.clsP 111 [109, 104, 105, 106, 107, 108] rfl (fun hg11 => (show Ow (.ptr Tref05Disk) _ _ (_, d0) from (mkP_ref05Disk d0.1 d0.2.1.1 d0.2.1.2.1 d0.2.1.2.2.1 d0.2.1.2.2.2 d0.2.2.1 d0.2.2.2.1 d0.2.2.2.2.1 d0.2.2.2.2.2.1 d0.2.2.2.2.2.2 hg11 (OwnL.ow (Ow.ownl q3_1 rfl mnil) rfl) (OwnL.ow (Ow.ownl q3_2 rfl mnil) rfl) (OwnL.ow (Ow.ownl q3_3 rfl mnil) rfl) (OwnL.ow (Ow.ownl q3_4 rfl mnil) rfl) q3_5 (by simp only [inK]; (exact fin3_rStart_ok)) (by simp only [inK]; (exact fin3_rStart_ok))))) (fun mc11 ho11 => ?_)
      refine VO.kp [111, 0] [(111, mc11), (0, mout (wm W) (m0))] ?_
      refine VO.k6 0 1 2 6 10 22 ?_
      refine VC.condT rfl ?_
      refine VC.rs ?_
      refine VO.as ?_
      refine VO.k6 0 1 2 6 10 22 ?_
      refine VC.ret ?_
      refine outR ?_
      refine ⟨_, _, res_run (rs := [.tmp 6]) rfl (.tmp rfl .nil), fun W_ hI => out_of (l := [mc11]) hI [111] rfl rfl (mle_refl _) (fun hS_ => ?_)⟩
      dsimp only [packV]
      have hm0_ : (toR (dStart (fromR d0) d1 d2).1 d0.2.2.2.2.2.1 : Dref05Disk) = d0 := by first | rfl | (exact fin0_rStart_ok)
      refine ⟨?_, ?_⟩
      rotate_left
      · rw [hm0_]; exact (Ow.up ho11 (hS_.1 _ (.head _)))
      all_goals (first | rfl | (exact fin1_rStart_ok))
    · -- FF
      refine VO.gy rfl ⟨_, rfl, rfl⟩ (.mv rfl) ?_
      refine VO.gy rfl ⟨_, rfl, rfl⟩ (.lss rfl rfl) ?_
      refine VO.y rfl (.pF rfl rfl) ?_
      refine VO.mv ?_
      refine VO.dec (t := 19) rfl (fun hc12 => ?_) (fun hc12 => ?_)
      · -- FFT
        refine VO.gN ?_
        refine VO.gN ?_
        refine VO.y rfl (.pT rfl rfl) ?_
        refine VO.clsP 113 [109, 104, 105, 106, 107, 108] rfl (fun hg13 => (show Ow (.ptr Tref05Disk) _ _ (_, d0) from (mkP_ref05Disk d0.1 d0.2.1.1 d0.2.1.2.1 d0.2.1.2.2.1 d0.2.1.2.2.2 d0.2.2.1 d0.2.2.2.1 d0.2.2.2.2.1 d0.2.2.2.2.2.1 d0.2.2.2.2.2.2 hg13 (OwnL.ow (Ow.ownl q3_1 rfl mnil) rfl) (OwnL.ow (Ow.ownl q3_2 rfl mnil) rfl) (OwnL.ow (Ow.ownl q3_3 rfl mnil) rfl) (OwnL.ow (Ow.ownl q3_4 rfl mnil) rfl) q3_5 (by simp only [inK]; (exact fin3_rStart_ok)) (by simp only [inK]; (exact fin3_rStart_ok))))) (fun mc13 ho13 => ?_)
        refine VO.kp [113, 0] [(113, mc13), (0, mout (wm W) (m0))] ?_
        refine VO.k6 0 1 2 6 10 22 ?_
        refine VC.condT rfl ?_
        refine VC.rs ?_
        refine VO.as ?_
        refine VO.k6 0 1 2 6 10 22 ?_
        refine VC.ret ?_
        refine outR ?_
        refine ⟨_, _, res_run (rs := [.tmp 6]) rfl (.tmp rfl .nil), fun W_ hI => out_of (l := [mc13]) hI [113] rfl rfl (mle_refl _) (fun hS_ => ?_)⟩
        dsimp only [packV]
        have hm0_ : (toR (dStart (fromR d0) d1 d2).1 d0.2.2.2.2.2.1 : Dref05Disk) = d0 := by first | rfl | (exact fin0_rStart_ok)
        refine ⟨?_, ?_⟩
        rotate_left
        · rw [hm0_]; exact (Ow.up ho13 (hS_.1 _ (.head _)))
        all_goals (first | rfl | (exact fin1_rStart_ok))
      · -- FFF
        refine VO.gy rfl ⟨_, rfl, rfl⟩ (.mv rfl) ?_
        refine VO.gy rfl ⟨_, rfl, rfl⟩ (.lss rfl rfl) ?_
        refine VO.y rfl (.pF rfl rfl) ?_
        refine VO.clsP 114 [109, 104, 105, 106, 107, 108] rfl (fun hg14 => (show Ow (.ptr Tref05Disk) _ _ (_, d0) from (mkP_ref05Disk d0.1 d0.2.1.1 d0.2.1.2.1 d0.2.1.2.2.1 d0.2.1.2.2.2 d0.2.2.1 d0.2.2.2.1 d0.2.2.2.2.1 d0.2.2.2.2.2.1 d0.2.2.2.2.2.2 hg14 (OwnL.ow (Ow.ownl q3_1 rfl mnil) rfl) (OwnL.ow (Ow.ownl q3_2 rfl mnil) rfl) (OwnL.ow (Ow.ownl q3_3 rfl mnil) rfl) (OwnL.ow (Ow.ownl q3_4 rfl mnil) rfl) q3_5 (by simp only [inK]; (exact fin3_rStart_ok)) (by simp only [inK]; (exact fin3_rStart_ok))))) (fun mc14 ho14 => ?_)
        refine VO.kp [114, 0] [(114, mc14), (0, mout (wm W) (m0))] ?_
        refine VO.k6 0 1 2 6 10 22 ?_
        refine VC.cond rfl (fun hc15 => ?_) (fun hc15 => ?_)
        · -- FFFT
          refine VC.rs ?_
          refine VO.as ?_
          refine VO.k6 0 1 2 6 10 22 ?_
          refine VC.ret ?_
          refine outR ?_
          refine ⟨_, _, res_run (rs := [.tmp 6]) rfl (.tmp rfl .nil), fun W_ hI => out_of (l := [mc14]) hI [114] rfl rfl (mle_refl _) (fun hS_ => ?_)⟩
          dsimp only [packV]
          have hm0_ : (toR (dStart (fromR d0) d1 d2).1 d0.2.2.2.2.2.1 : Dref05Disk) = d0 := by first | rfl | (exact fin0_rStart_ok)
          refine ⟨?_, ?_⟩
          rotate_left
          · rw [hm0_]; exact (Ow.up ho14 (hS_.1 _ (.head _)))
          all_goals (first | rfl | (exact fin1_rStart_ok))
        · -- FFFF
          refine VC.skip ?_
          refine outN ?_
          refine VC.rs ?_
          refine VO.mv ?_
          refine VO.mv ?_
          refine VO.call 114 rfl fnOk80 rfl rfl (fun W hW => rKeep_ok W (hW.at (i := 114) rfl) ho14 d1 (by simp only [inK]; (exact fin3_rStart_ok)) (by assumption) (by exact fin3_rStart_ok) (by exact fin3_rStart_ok)) (fun v16 m16 hv16 => ?_)
          obtain ⟨rfl, w16_0⟩ := hv16
          refine VO.k6 0 1 2 6 10 22 ?_
          refine VC.seq ?_
          refine VC.rs ?_
          refine VO.mv ?_
          refine VO.mv ?_
          refine VO.y rfl (.nilp rfl) ?_
          refine VO.y rfl (.fa rfl tst99 rfl) ?_
          obtain ⟨q17_E, q17_A1, q17_c1, q17_A2, q17_c2, q17_A3, q17_c3, q17_A4, q17_c4, q17_A5, q17_c5, q17_n1, q17_n2, q17_n3, q17_n4, q17_n5, _, q17_S, q17_1, q17_2, q17_3, q17_4, q17_5, q17_8, q17_9⟩ := openP_ref05Disk (x0 := (toR (keepR (fromR d0) d1.toNat) d0.2.2.2.2.2.1).1) (x1 := ((toR (keepR (fromR d0) d1.toNat) d0.2.2.2.2.2.1).2.1).1) (x2 := ((toR (keepR (fromR d0) d1.toNat) d0.2.2.2.2.2.1).2.1).2.1) (x3 := ((toR (keepR (fromR d0) d1.toNat) d0.2.2.2.2.2.1).2.1).2.2.1) (x4 := ((toR (keepR (fromR d0) d1.toNat) d0.2.2.2.2.2.1).2.1).2.2.2) (x5 := (toR (keepR (fromR d0) d1.toNat) d0.2.2.2.2.2.1).2.2.1) (x6 := (toR (keepR (fromR d0) d1.toNat) d0.2.2.2.2.2.1).2.2.2.1) (x7 := (toR (keepR (fromR d0) d1.toNat) d0.2.2.2.2.2.1).2.2.2.2.1) (x8 := (toR (keepR (fromR d0) d1.toNat) d0.2.2.2.2.2.1).2.2.2.2.2.1) (x9 := (toR (keepR (fromR d0) d1.toNat) d0.2.2.2.2.2.1).2.2.2.2.2.2) w16_0
          have q17_r1 := q17_1.rm
          have q17_r2 := q17_2.rm
          have q17_r3 := q17_3.rm
          have q17_r4 := q17_4.rm
          have q17_r5 := q17_5.rm
          simp only [inK] at q17_8
          simp only [inK] at q17_9
          refine VO.inv _ (fun _ h => h.parts (i := 114) rfl q17_S [123, 118, 119, 120, 121, 122]) ?_
          refine VO.y rfl (.ld1 123 rfl tk97 rfl (cellsAt_one rfl rfl)) ?_
          refine VO.y rfl (.lenS rfl tsl97) ?_
          refine VO.y rfl (.lss rfl rfl) ?_
          refine VO.mv ?_
          refine VO.dec (t := 33) rfl (fun hc24 => ?_) (fun hc24 => ?_)
          · -- FFFFT
            refine VO.gy rfl ⟨_, rfl, rfl⟩ (.mv rfl) ?_
            refine VO.gy rfl ⟨_, rfl, rfl⟩ (.nilp rfl) ?_
            refine VO.gy rfl ⟨_, rfl, rfl⟩ (.fa rfl tst99 rfl) ?_
            refine VO.gy rfl ⟨_, rfl, rfl⟩ (.ld1 123 rfl tk97 rfl (cellsAt_one rfl rfl)) ?_
            refine VO.gy rfl ⟨_, rfl, rfl⟩ (.mv rfl) ?_
            obtain ⟨x25, hx25⟩ : ∃ z_, ((toR (keepR (fromR d0) d1.toNat) d0.2.2.2.2.2.1).2.2.1)[(d1).toNat]? = some z_ := ⟨_, List.getElem?_eq_getElem (by exact fin3_rStart_ok)⟩
            obtain ⟨gg25, oo25, ec25, ea25, hce25, hre25⟩ := (Ow.rd q17_5 (mle_refl _)).elem hx25
            cases ea25
            obtain ⟨q25_A3, q25_c3, rfl, q25_0, q25_2, q25_3⟩ := open_ref05Raw (x0 := x25.1) (x1 := x25.2.1) (x2 := x25.2.2.1) (x3 := x25.2.2.2) hre25
            simp only [inK] at q25_0
            simp only [inK] at q25_2
            have q25_r3 := Rd.room q25_3
            refine VO.gy rfl ⟨_, rfl, rfl⟩ (.ixI ((d1).toNat) rfl rfl tsl97 (by exact fin3_rStart_ok) (by exact fin3_rStart_ok)) ?_
            refine VO.gy rfl ⟨_, rfl, rfl⟩ (.fa rfl tst103 rfl) ?_
            refine VO.gy rfl ⟨_, rfl, rfl⟩ (.ld1 122 rfl tk4 rfl (hce25.at1 (j := 1) rfl)) ?_
            refine VO.gy rfl ⟨_, rfl, rfl⟩ (.not rfl) ?_
            refine VO.y rfl (.pT rfl rfl) ?_
            refine VO.clsP 126 [123, 118, 119, 120, 121, 122] rfl (fun hg26 => (show Ow (.ptr Tref05Disk) _ _ (_, (toR (keepR (fromR d0) d1.toNat) d0.2.2.2.2.2.1)) from (mkP_ref05Disk ((toR (keepR (fromR d0) d1.toNat) d0.2.2.2.2.2.1).1) (((toR (keepR (fromR d0) d1.toNat) d0.2.2.2.2.2.1).2.1).1) (((toR (keepR (fromR d0) d1.toNat) d0.2.2.2.2.2.1).2.1).2.1) (((toR (keepR (fromR d0) d1.toNat) d0.2.2.2.2.2.1).2.1).2.2.1) (((toR (keepR (fromR d0) d1.toNat) d0.2.2.2.2.2.1).2.1).2.2.2) ((toR (keepR (fromR d0) d1.toNat) d0.2.2.2.2.2.1).2.2.1) ((toR (keepR (fromR d0) d1.toNat) d0.2.2.2.2.2.1).2.2.2.1) ((toR (keepR (fromR d0) d1.toNat) d0.2.2.2.2.2.1).2.2.2.2.1) ((toR (keepR (fromR d0) d1.toNat) d0.2.2.2.2.2.1).2.2.2.2.2.1) ((toR (keepR (fromR d0) d1.toNat) d0.2.2.2.2.2.1).2.2.2.2.2.2) hg26 (OwnL.ow (Ow.ownl q17_1 rfl mnil) rfl) (OwnL.ow (Ow.ownl q17_2 rfl mnil) rfl) (OwnL.ow (Ow.ownl q17_3 rfl mnil) rfl) (OwnL.ow (Ow.ownl q17_4 rfl mnil) rfl) q17_5 (by simp only [inK]; (exact fin3_rStart_ok)) (by simp only [inK]; (exact fin3_rStart_ok))))) (fun mc26 ho26 => ?_)
            refine VO.k7 0 1 2 6 10 22 43 ?_
            refine VC.condBN rfl (fun hc27 => ?_) (fun hc27 => ?_)
            · -- FFFFTT
              refine VC.rs ?_
              refine VO.mv ?_
              refine VO.y rfl (.nilp rfl) ?_
              refine VO.y rfl (.fa rfl tst99 rfl) ?_
              obtain ⟨q28_E, q28_A1, q28_c1, q28_A2, q28_c2, q28_A3, q28_c3, q28_A4, q28_c4, q28_A5, q28_c5, q28_n1, q28_n2, q28_n3, q28_n4, q28_n5, _, q28_S, q28_1, q28_2, q28_3, q28_4, q28_5, q28_8, q28_9⟩ := openP_ref05Disk (x0 := (toR (keepR (fromR d0) d1.toNat) d0.2.2.2.2.2.1).1) (x1 := ((toR (keepR (fromR d0) d1.toNat) d0.2.2.2.2.2.1).2.1).1) (x2 := ((toR (keepR (fromR d0) d1.toNat) d0.2.2.2.2.2.1).2.1).2.1) (x3 := ((toR (keepR (fromR d0) d1.toNat) d0.2.2.2.2.2.1).2.1).2.2.1) (x4 := ((toR (keepR (fromR d0) d1.toNat) d0.2.2.2.2.2.1).2.1).2.2.2) (x5 := (toR (keepR (fromR d0) d1.toNat) d0.2.2.2.2.2.1).2.2.1) (x6 := (toR (keepR (fromR d0) d1.toNat) d0.2.2.2.2.2.1).2.2.2.1) (x7 := (toR (keepR (fromR d0) d1.toNat) d0.2.2.2.2.2.1).2.2.2.2.1) (x8 := (toR (keepR (fromR d0) d1.toNat) d0.2.2.2.2.2.1).2.2.2.2.2.1) (x9 := (toR (keepR (fromR d0) d1.toNat) d0.2.2.2.2.2.1).2.2.2.2.2.2) ho26
              have q28_r1 := q28_1.rm
              have q28_r2 := q28_2.rm
              have q28_r3 := q28_3.rm
              have q28_r4 := q28_4.rm
              have q28_r5 := q28_5.rm
              simp only [inK] at q28_8
              simp only [inK] at q28_9
              refine VO.inv _ (fun _ h => h.parts (i := 126) rfl q28_S [134, 129, 130, 131, 132, 133]) ?_
              refine VO.y rfl (.ld1 134 rfl tk97 rfl (cellsAt_one rfl rfl)) ?_
              refine VO.mv ?_
              obtain ⟨x35, hx35⟩ : ∃ z_, ((toR (keepR (fromR d0) d1.toNat) d0.2.2.2.2.2.1).2.2.1)[(d1).toNat]? = some z_ := ⟨_, List.getElem?_eq_getElem (by exact fin3_rStart_ok)⟩
              obtain ⟨gg35, oo35, ec35, ea35, hce35, hre35⟩ := (Ow.rd q28_5 (mle_refl _)).elem hx35
              cases ea35
              obtain ⟨q35_A3, q35_c3, rfl, q35_0, q35_2, q35_3⟩ := open_ref05Raw (x0 := x35.1) (x1 := x35.2.1) (x2 := x35.2.2.1) (x3 := x35.2.2.2) hre35
              simp only [inK] at q35_0
              simp only [inK] at q35_2
              have q35_r3 := Rd.room q35_3
              refine VO.y rfl (.ixI ((d1).toNat) rfl rfl tsl97 (by exact fin3_rStart_ok) (by exact fin3_rStart_ok)) ?_
              refine VO.y rfl (.ldA 133 rfl tk103 rfl hce35) ?_
              refine VO.alloc 137 rfl tz103 (fun g36 => ?_)
              refine VO.store (k := 4) (c' := [Value.int .i64 (x35.1), Value.bool x35.2.1, Value.int .i64 (x35.2.2.1), Value.slice q35_A3 (x35.2.2.2.length) (q35_c3)]) 137 rfl rfl (.inl tk103) rfl rfl rfl rfl rfl ?_
              refine VO.kp [137, 134, 129, 130, 131, 132, 133, 0] [(137, mone g36 (.cells [Value.int .i64 (x35.1), Value.bool x35.2.1, Value.int .i64 (x35.2.2.1), Value.slice q35_A3 (x35.2.2.2.length) (q35_c3)].toArray 103 (0, 0))), (134, mone g0 (.cells [Value.bool ((toR (keepR (fromR d0) d1.toNat) d0.2.2.2.2.2.1).1), Value.slice q28_A1 ((((toR (keepR (fromR d0) d1.toNat) d0.2.2.2.2.2.1).2.1).1).length) (q28_c1), Value.slice q28_A2 ((((toR (keepR (fromR d0) d1.toNat) d0.2.2.2.2.2.1).2.1).2.1).length) (q28_c2), Value.slice q28_A3 ((((toR (keepR (fromR d0) d1.toNat) d0.2.2.2.2.2.1).2.1).2.2.1).length) (q28_c3), Value.slice q28_A4 ((((toR (keepR (fromR d0) d1.toNat) d0.2.2.2.2.2.1).2.1).2.2.2).length) (q28_c4), Value.slice (some ⟨gg35, oo35, none⟩) (((toR (keepR (fromR d0) d1.toNat) d0.2.2.2.2.2.1).2.2.1).length) (q28_c5), Value.bool ((toR (keepR (fromR d0) d1.toNat) d0.2.2.2.2.2.1).2.2.2.1), Value.bool ((toR (keepR (fromR d0) d1.toNat) d0.2.2.2.2.2.1).2.2.2.2.1), Value.int .i64 ((toR (keepR (fromR d0) d1.toNat) d0.2.2.2.2.2.1).2.2.2.2.2.1), Value.int .i64 ((toR (keepR (fromR d0) d1.toNat) d0.2.2.2.2.2.1).2.2.2.2.2.2)].toArray q28_E (0, 0))), (129, q28_n1), (130, q28_n2), (131, q28_n3), (132, q28_n4), (133, q28_n5), (0, mout (wm W) (m0))] ?_
              refine VO.k8 0 1 2 6 7 10 22 43 ?_
              refine VC.rs ?_
              have hxe : x35 = x25 := Option.some.inj (hx35.symm.trans hx25)
              subst hxe
              refine VO.mv ?_
              refine VO.y rfl (.fa rfl tst103 rfl) ?_
              refine VO.y rfl (.ld1 137 rfl tk25 rfl (cellsAt_one rfl rfl)) ?_
              refine VO.y rfl (.lenS rfl tsl25) ?_
              refine VO.y rfl (.sub rfl rfl rfl ⟨by exact fin3_rStart_ok, by exact fin3_rStart_ok⟩) ?_
              refine VO.y rfl (.minM rfl rfl) ?_
              refine VO.as ?_
              refine VO.k9 0 1 2 6 7 8 10 22 43 ?_
              refine VC.regD _ 20 [(0, true), (1, true), (2, true), (3, true), (4, true), (5, true), (6, true), (7, true), (8, true), (9, true), (10, true), (11, true), (12, true), (13, true), (14, true), (15, true), (16, true), (18, true), (19, true), (17, false)] follows (by kernel_rfl) (fun _ h => h.sub [137, 134, 129, 130, 131, 132, 133, 0]) ?_
              refine VD.y rfl rfl (.inl rfl) (.mv rfl) ?_
              refine VD.y rfl rfl (.inl rfl) (.fa rfl tst103 rfl) ?_
              refine VD.y rfl rfl (.inl rfl) (.ld1 137 rfl tk3 rfl (cellsAt_one rfl rfl)) ?_
              refine VD.y rfl rfl (.inl rfl) (.mv rfl) ?_
              refine VD.y rfl rfl (.inl rfl) (.fa rfl tst103 rfl) ?_
              refine VD.y rfl rfl (.inl rfl) (.ld1 137 rfl tk3 rfl (cellsAt_one rfl rfl)) ?_
              refine VD.y rfl rfl (.inl rfl) (.nilp rfl) ?_
              refine VD.y rfl rfl (.inl rfl) (.fa rfl tst99 rfl) ?_
              rcases (show x35.1 = (0 : Int) ∨ x35.1 = (1 : Int) ∨ x35.1 = (2 : Int) ∨ x35.1 = (3 : Int) from by exact fin3_rStart_ok) with hi38 | hi38 | hi38 | hi38
              · -- FFFFTT0
                refine VD.y rfl rfl (.inl rfl) (.ixa (i := 0) (o := 1) rfl rfl tar69 hi38 rfl rfl) ?_
                refine VD.y rfl rfl (.inl rfl) (.ld1 134 rfl tk25 rfl (cellsAt_one rfl rfl)) ?_
                refine VD.y rfl rfl (.inl rfl) (.fa rfl tst103 rfl) ?_
                refine VD.y rfl rfl (.inl rfl) (.ld1 137 rfl tk3 rfl (cellsAt_one rfl rfl)) ?_
                refine VD.y rfl rfl (.inl rfl) (.fa rfl tst103 rfl) ?_
                refine VD.y rfl rfl (.inl rfl) (.ld1 137 rfl tk25 rfl (cellsAt_one rfl rfl)) ?_
                refine VD.y rfl rfl (.inl rfl) (.mv rfl) ?_
                have hs39 := q35_3.pre (j := ((min d2 (((x35.2.2.2.length : Nat) : Int) - 1)).toNat)) (by exact fin3_rStart_ok)
                refine VD.y rfl rfl (.inl rfl) (.slHI ((min d2 (((x35.2.2.2.length : Nat) : Int) - 1)).toNat) rfl rfl tsl25 (by exact fin3_rStart_ok) (by exact fin3_rStart_ok)) ?_
                refine VD.y rfl rfl (.inl rfl) (.bst (cs := [Value.int .i64 (x35.1), Value.bool false, Value.int .i64 (0), Value.slice q35_A3 ((min d2 (((x35.2.2.2.length : Nat) : Int) - 1)).toNat) (q35_c3)]) rfl tst103 tz103 rfl) ?_
                refine VD.y rfl rfl (.inl rfl) (.nilp rfl) ?_
                refine VD.y rfl rfl (.inl rfl) (.fa rfl tst99 rfl) ?_
                refine VD.callN 140 rfl rfl (.inl rfl) fnOk85 rfl (fun _ h => h.sub [137, 134, 129, 130, 131, 132, 133, 0]) (fun W hW => rWith_ok W (OwnL.rd (Ow.ownl q28_1 rfl mnil) (hW.at (i := 129) rfl) (mle_nil _)) (mk_ref05Raw (m := wm W) x35.1 false 0 ((x35.2.2.2).take ((min d2 (((x35.2.2.2.length : Nat) : Int) - 1)).toNat)) (by simp only [inK]; (exact fin3_rStart_ok)) (by simp only [inK]; (exact fin3_rStart_ok)) (Rd.mono hs39 (hW.at (i := 133) rfl))) (by intro h_; cases h_) (by (have h_ := ‹_[d1.toNat]? = some _›; rw [rkeep_wait] at h_; have h2_ := (rstart_good e0 h_).2.2; first | (rw [getF0 ‹_ = (0 : Int)›] at h2_; exact room_le h2_ (by omega)) | (rw [getF1 ‹_ = (1 : Int)›] at h2_; exact room_le h2_ (by omega)) | (rw [getF2 ‹_ = (2 : Int)›] at h2_; exact room_le h2_ (by omega)) | (rw [getF3 ‹_ = (3 : Int)›] at h2_; exact room_le h2_ (by omega))))) (fun v40 m40 hv40 => ?_)
                try dsimp only at hv40
                obtain ⟨s40_0, rfl, f40_0⟩ := hv40
                obtain ⟨A40_0, c40_0, eq40_0, l40_0, k40_0⟩ := f40_0.slice
                subst eq40_0
                simp only [maxLen] at k40_0
                refine VD.nil rfl ?_ rfl
                refine VO.y rfl (.ixa (i := 0) (o := 1) rfl rfl tar69 hi38 rfl rfl) ?_
                refine VO.store (k := 1) 134 rfl rfl (.inr ⟨tk25, rfl⟩) rfl rfl rfl rfl rfl ?_
                refine VO.k9 0 1 2 6 7 8 10 22 43 ?_
                refine outN ?_
                refine VC.rs ?_
                refine VO.mv ?_
                refine VO.y rfl (.nilp rfl) ?_
                refine VO.y rfl (.fa rfl tst99 rfl) ?_
                refine VO.store (k := 1) 134 rfl rfl (.inr ⟨tk97, rfl⟩) rfl rfl rfl rfl rfl ?_
                refine VO.clsP 141 [134, 140, 130, 131, 132] rfl (fun hg41 => (mkP_ref05Disk ((toR (keepR (fromR d0) d1.toNat) d0.2.2.2.2.2.1).1) (doneR (((toR (keepR (fromR d0) d1.toNat) d0.2.2.2.2.2.1).2.1).1) (x35.1, false, 0, (x35.2.2.2).take ((min d2 (((x35.2.2.2.length : Nat) : Int) - 1)).toNat))) (((toR (keepR (fromR d0) d1.toNat) d0.2.2.2.2.2.1).2.1).2.1) (((toR (keepR (fromR d0) d1.toNat) d0.2.2.2.2.2.1).2.1).2.2.1) (((toR (keepR (fromR d0) d1.toNat) d0.2.2.2.2.2.1).2.1).2.2.2) [] ((toR (keepR (fromR d0) d1.toNat) d0.2.2.2.2.2.1).2.2.2.1) ((toR (keepR (fromR d0) d1.toNat) d0.2.2.2.2.2.1).2.2.2.2.1) ((toR (keepR (fromR d0) d1.toNat) d0.2.2.2.2.2.1).2.2.2.2.2.1) ((toR (keepR (fromR d0) d1.toNat) d0.2.2.2.2.2.1).2.2.2.2.2.2) (Seps.nilAt 5 hg41) (OwnL.ow (Ow.ownl f40_0 rfl mnil) rfl) (OwnL.ow (Ow.ownl q28_2 rfl mnil) rfl) (OwnL.ow (Ow.ownl q28_3 rfl mnil) rfl) (OwnL.ow (Ow.ownl q28_4 rfl mnil) rfl) (Ow.nil _ _) (by simp only [inK]; (exact fin3_rStart_ok)) (by simp only [inK]; (exact fin3_rStart_ok)))) (fun mc41 ho41 => ?_)
                refine VO.kp [141, 137, 133, 0] [(141, mc41), (137, mone g36 (.cells [Value.int .i64 (x35.1), Value.bool x35.2.1, Value.int .i64 (x35.2.2.1), Value.slice q35_A3 (x35.2.2.2.length) (q35_c3)].toArray 103 (0, 0))), (133, q28_n5), (0, mout (wm W) (m0))] ?_
                refine VO.k9 0 1 2 6 7 8 10 22 43 ?_
                refine VC.rs ?_
                refine VO.mv ?_
                refine VO.y rfl (.nilp rfl) ?_
                refine VO.y rfl (.fa rfl tst99 rfl) ?_
                obtain ⟨q42_E, q42_A1, q42_c1, q42_A2, q42_c2, q42_A3, q42_c3, q42_A4, q42_c4, q42_A5, q42_c5, q42_n1, q42_n2, q42_n3, q42_n4, q42_n5, _, q42_S, q42_1, q42_2, q42_3, q42_4, q42_5, q42_8, q42_9⟩ := openP_ref05Disk (x0 := (toR (keepR (fromR d0) d1.toNat) d0.2.2.2.2.2.1).1) (x1 := doneR (((toR (keepR (fromR d0) d1.toNat) d0.2.2.2.2.2.1).2.1).1) (x35.1, false, 0, (x35.2.2.2).take ((min d2 (((x35.2.2.2.length : Nat) : Int) - 1)).toNat))) (x2 := ((toR (keepR (fromR d0) d1.toNat) d0.2.2.2.2.2.1).2.1).2.1) (x3 := ((toR (keepR (fromR d0) d1.toNat) d0.2.2.2.2.2.1).2.1).2.2.1) (x4 := ((toR (keepR (fromR d0) d1.toNat) d0.2.2.2.2.2.1).2.1).2.2.2) (x5 := []) (x6 := (toR (keepR (fromR d0) d1.toNat) d0.2.2.2.2.2.1).2.2.2.1) (x7 := (toR (keepR (fromR d0) d1.toNat) d0.2.2.2.2.2.1).2.2.2.2.1) (x8 := (toR (keepR (fromR d0) d1.toNat) d0.2.2.2.2.2.1).2.2.2.2.2.1) (x9 := (toR (keepR (fromR d0) d1.toNat) d0.2.2.2.2.2.1).2.2.2.2.2.2) ho41
                have q42_r1 := q42_1.rm
                have q42_r2 := q42_2.rm
                have q42_r3 := q42_3.rm
                have q42_r4 := q42_4.rm
                have q42_r5 := q42_5.rm
                simp only [inK] at q42_8
                simp only [inK] at q42_9
                refine VO.inv _ (fun _ h => h.parts (i := 141) rfl q42_S [148, 143, 144, 145, 146, 147]) ?_
                refine VO.store (k := 1) 148 rfl rfl (.inr ⟨tk4, rfl⟩) rfl rfl rfl rfl rfl ?_
                refine VO.clsP 149 [148, 143, 144, 145, 146, 147] rfl (fun hg49 => (mkP_ref05Disk ((toR (keepR (fromR d0) d1.toNat) d0.2.2.2.2.2.1).1) (doneR (((toR (keepR (fromR d0) d1.toNat) d0.2.2.2.2.2.1).2.1).1) (x35.1, false, 0, (x35.2.2.2).take ((min d2 (((x35.2.2.2.length : Nat) : Int) - 1)).toNat))) (((toR (keepR (fromR d0) d1.toNat) d0.2.2.2.2.2.1).2.1).2.1) (((toR (keepR (fromR d0) d1.toNat) d0.2.2.2.2.2.1).2.1).2.2.1) (((toR (keepR (fromR d0) d1.toNat) d0.2.2.2.2.2.1).2.1).2.2.2) [] ((toR (keepR (fromR d0) d1.toNat) d0.2.2.2.2.2.1).2.2.2.1) false ((toR (keepR (fromR d0) d1.toNat) d0.2.2.2.2.2.1).2.2.2.2.2.1) ((toR (keepR (fromR d0) d1.toNat) d0.2.2.2.2.2.1).2.2.2.2.2.2) hg49 (OwnL.ow (Ow.ownl q42_1 rfl mnil) rfl) (OwnL.ow (Ow.ownl q42_2 rfl mnil) rfl) (OwnL.ow (Ow.ownl q42_3 rfl mnil) rfl) (OwnL.ow (Ow.ownl q42_4 rfl mnil) rfl) q42_5 (by simp only [inK]; (exact fin3_rStart_ok)) (by simp only [inK]; (exact fin3_rStart_ok)))) (fun mc49 ho49 => ?_)
                refine VO.k9 0 1 2 6 7 8 10 22 43 ?_
                refine VC.rs ?_
                refine VO.mv ?_
                refine VO.y rfl (.nilp rfl) ?_
                refine VO.y rfl (.fa rfl tst99 rfl) ?_
                obtain ⟨q50_E, q50_A1, q50_c1, q50_A2, q50_c2, q50_A3, q50_c3, q50_A4, q50_c4, q50_A5, q50_c5, q50_n1, q50_n2, q50_n3, q50_n4, q50_n5, _, q50_S, q50_1, q50_2, q50_3, q50_4, q50_5, q50_8, q50_9⟩ := openP_ref05Disk (x0 := (toR (keepR (fromR d0) d1.toNat) d0.2.2.2.2.2.1).1) (x1 := doneR (((toR (keepR (fromR d0) d1.toNat) d0.2.2.2.2.2.1).2.1).1) (x35.1, false, 0, (x35.2.2.2).take ((min d2 (((x35.2.2.2.length : Nat) : Int) - 1)).toNat))) (x2 := ((toR (keepR (fromR d0) d1.toNat) d0.2.2.2.2.2.1).2.1).2.1) (x3 := ((toR (keepR (fromR d0) d1.toNat) d0.2.2.2.2.2.1).2.1).2.2.1) (x4 := ((toR (keepR (fromR d0) d1.toNat) d0.2.2.2.2.2.1).2.1).2.2.2) (x5 := []) (x6 := (toR (keepR (fromR d0) d1.toNat) d0.2.2.2.2.2.1).2.2.2.1) (x7 := false) (x8 := (toR (keepR (fromR d0) d1.toNat) d0.2.2.2.2.2.1).2.2.2.2.2.1) (x9 := (toR (keepR (fromR d0) d1.toNat) d0.2.2.2.2.2.1).2.2.2.2.2.2) ho49
                have q50_r1 := q50_1.rm
                have q50_r2 := q50_2.rm
                have q50_r3 := q50_3.rm
                have q50_r4 := q50_4.rm
                have q50_r5 := q50_5.rm
                simp only [inK] at q50_8
                simp only [inK] at q50_9
                refine VO.inv _ (fun _ h => h.parts (i := 149) rfl q50_S [156, 151, 152, 153, 154, 155]) ?_
                refine VO.store (k := 1) 156 rfl rfl (.inr ⟨tk4, rfl⟩) rfl rfl rfl rfl rfl ?_
                refine VO.clsP 157 [156, 151, 152, 153, 154, 155] rfl (fun hg57 => (mkP_ref05Disk ((toR (keepR (fromR d0) d1.toNat) d0.2.2.2.2.2.1).1) (doneR (((toR (keepR (fromR d0) d1.toNat) d0.2.2.2.2.2.1).2.1).1) (x35.1, false, 0, (x35.2.2.2).take ((min d2 (((x35.2.2.2.length : Nat) : Int) - 1)).toNat))) (((toR (keepR (fromR d0) d1.toNat) d0.2.2.2.2.2.1).2.1).2.1) (((toR (keepR (fromR d0) d1.toNat) d0.2.2.2.2.2.1).2.1).2.2.1) (((toR (keepR (fromR d0) d1.toNat) d0.2.2.2.2.2.1).2.1).2.2.2) [] true false ((toR (keepR (fromR d0) d1.toNat) d0.2.2.2.2.2.1).2.2.2.2.2.1) ((toR (keepR (fromR d0) d1.toNat) d0.2.2.2.2.2.1).2.2.2.2.2.2) hg57 (OwnL.ow (Ow.ownl q50_1 rfl mnil) rfl) (OwnL.ow (Ow.ownl q50_2 rfl mnil) rfl) (OwnL.ow (Ow.ownl q50_3 rfl mnil) rfl) (OwnL.ow (Ow.ownl q50_4 rfl mnil) rfl) q50_5 (by simp only [inK]; (exact fin3_rStart_ok)) (by simp only [inK]; (exact fin3_rStart_ok)))) (fun mc57 ho57 => ?_)
                refine VO.k9 0 1 2 6 7 8 10 22 43 ?_
                refine VC.rs ?_
                refine VO.as ?_
                refine VO.kp [157, 137, 133, 0] [(157, mc57), (137, mone g36 (.cells [Value.int .i64 (x35.1), Value.bool x35.2.1, Value.int .i64 (x35.2.2.1), Value.slice q35_A3 (x35.2.2.2.length) (q35_c3)].toArray 103 (0, 0))), (133, q28_n5), (0, mout (wm W) (m0))] ?_
                refine VO.k9 0 1 2 6 7 8 10 22 43 ?_
                refine VC.ret ?_
                refine ⟨_, _, res_run (rs := [.tmp 6]) rfl (.tmp rfl .nil), fun W_ hI => out_of (l := [mc57]) hI [157] rfl rfl (mle_refl _) (fun hS_ => ?_)⟩
                dsimp only [packV]
                have hm0_ : (toR (dStart (fromR d0) d1 d2).1 d0.2.2.2.2.2.1 : Dref05Disk) = ((toR (keepR (fromR d0) d1.toNat) d0.2.2.2.2.2.1).1, (doneR (((toR (keepR (fromR d0) d1.toNat) d0.2.2.2.2.2.1).2.1).1) (x35.1, false, 0, (x35.2.2.2).take ((min d2 (((x35.2.2.2.length : Nat) : Int) - 1)).toNat)), ((toR (keepR (fromR d0) d1.toNat) d0.2.2.2.2.2.1).2.1).2), [], true, false, (toR (keepR (fromR d0) d1.toNat) d0.2.2.2.2.2.1).2.2.2.2.2) := by first | rfl | (exact fin0_rStart_ok)
                refine ⟨?_, ?_⟩
                rotate_left
                · rw [hm0_]; exact (Ow.up ho57 (hS_.1 _ (.head _)))
                all_goals (first | rfl | (exact fin1_rStart_ok))
              · -- FFFFTT1
                refine VD.y rfl rfl (.inl rfl) (.ixa (i := 1) (o := 2) rfl rfl tar69 hi38 rfl rfl) ?_
                refine VD.y rfl rfl (.inl rfl) (.ld1 134 rfl tk25 rfl (cellsAt_one rfl rfl)) ?_
                refine VD.y rfl rfl (.inl rfl) (.fa rfl tst103 rfl) ?_
                refine VD.y rfl rfl (.inl rfl) (.ld1 137 rfl tk3 rfl (cellsAt_one rfl rfl)) ?_
                refine VD.y rfl rfl (.inl rfl) (.fa rfl tst103 rfl) ?_
                refine VD.y rfl rfl (.inl rfl) (.ld1 137 rfl tk25 rfl (cellsAt_one rfl rfl)) ?_
                refine VD.y rfl rfl (.inl rfl) (.mv rfl) ?_
                have hs58 := q35_3.pre (j := ((min d2 (((x35.2.2.2.length : Nat) : Int) - 1)).toNat)) (by exact fin3_rStart_ok)
                refine VD.y rfl rfl (.inl rfl) (.slHI ((min d2 (((x35.2.2.2.length : Nat) : Int) - 1)).toNat) rfl rfl tsl25 (by exact fin3_rStart_ok) (by exact fin3_rStart_ok)) ?_
                refine VD.y rfl rfl (.inl rfl) (.bst (cs := [Value.int .i64 (x35.1), Value.bool false, Value.int .i64 (0), Value.slice q35_A3 ((min d2 (((x35.2.2.2.length : Nat) : Int) - 1)).toNat) (q35_c3)]) rfl tst103 tz103 rfl) ?_
                refine VD.y rfl rfl (.inl rfl) (.nilp rfl) ?_
                refine VD.y rfl rfl (.inl rfl) (.fa rfl tst99 rfl) ?_
                refine VD.callN 159 rfl rfl (.inl rfl) fnOk85 rfl (fun _ h => h.sub [137, 134, 129, 130, 131, 132, 133, 0]) (fun W hW => rWith_ok W (OwnL.rd (Ow.ownl q28_2 rfl mnil) (hW.at (i := 130) rfl) (mle_nil _)) (mk_ref05Raw (m := wm W) x35.1 false 0 ((x35.2.2.2).take ((min d2 (((x35.2.2.2.length : Nat) : Int) - 1)).toNat)) (by simp only [inK]; (exact fin3_rStart_ok)) (by simp only [inK]; (exact fin3_rStart_ok)) (Rd.mono hs58 (hW.at (i := 133) rfl))) (by intro h_; cases h_) (by (have h_ := ‹_[d1.toNat]? = some _›; rw [rkeep_wait] at h_; have h2_ := (rstart_good e0 h_).2.2; first | (rw [getF0 ‹_ = (0 : Int)›] at h2_; exact room_le h2_ (by omega)) | (rw [getF1 ‹_ = (1 : Int)›] at h2_; exact room_le h2_ (by omega)) | (rw [getF2 ‹_ = (2 : Int)›] at h2_; exact room_le h2_ (by omega)) | (rw [getF3 ‹_ = (3 : Int)›] at h2_; exact room_le h2_ (by omega))))) (fun v59 m59 hv59 => ?_)
                try dsimp only at hv59
                obtain ⟨s59_0, rfl, f59_0⟩ := hv59
                obtain ⟨A59_0, c59_0, eq59_0, l59_0, k59_0⟩ := f59_0.slice
                subst eq59_0
                simp only [maxLen] at k59_0
                refine VD.nil rfl ?_ rfl
                refine VO.y rfl (.ixa (i := 1) (o := 2) rfl rfl tar69 hi38 rfl rfl) ?_
                refine VO.store (k := 1) 134 rfl rfl (.inr ⟨tk25, rfl⟩) rfl rfl rfl rfl rfl ?_
                refine VO.k9 0 1 2 6 7 8 10 22 43 ?_
                refine outN ?_
                refine VC.rs ?_
                refine VO.mv ?_
                refine VO.y rfl (.nilp rfl) ?_
                refine VO.y rfl (.fa rfl tst99 rfl) ?_
                refine VO.store (k := 1) 134 rfl rfl (.inr ⟨tk97, rfl⟩) rfl rfl rfl rfl rfl ?_
                refine VO.clsP 160 [134, 129, 159, 131, 132] rfl (fun hg60 => (mkP_ref05Disk ((toR (keepR (fromR d0) d1.toNat) d0.2.2.2.2.2.1).1) (((toR (keepR (fromR d0) d1.toNat) d0.2.2.2.2.2.1).2.1).1) (doneR (((toR (keepR (fromR d0) d1.toNat) d0.2.2.2.2.2.1).2.1).2.1) (x35.1, false, 0, (x35.2.2.2).take ((min d2 (((x35.2.2.2.length : Nat) : Int) - 1)).toNat))) (((toR (keepR (fromR d0) d1.toNat) d0.2.2.2.2.2.1).2.1).2.2.1) (((toR (keepR (fromR d0) d1.toNat) d0.2.2.2.2.2.1).2.1).2.2.2) [] ((toR (keepR (fromR d0) d1.toNat) d0.2.2.2.2.2.1).2.2.2.1) ((toR (keepR (fromR d0) d1.toNat) d0.2.2.2.2.2.1).2.2.2.2.1) ((toR (keepR (fromR d0) d1.toNat) d0.2.2.2.2.2.1).2.2.2.2.2.1) ((toR (keepR (fromR d0) d1.toNat) d0.2.2.2.2.2.1).2.2.2.2.2.2) (Seps.nilAt 5 hg60) (OwnL.ow (Ow.ownl q28_1 rfl mnil) rfl) (OwnL.ow (Ow.ownl f59_0 rfl mnil) rfl) (OwnL.ow (Ow.ownl q28_3 rfl mnil) rfl) (OwnL.ow (Ow.ownl q28_4 rfl mnil) rfl) (Ow.nil _ _) (by simp only [inK]; (exact fin3_rStart_ok)) (by simp only [inK]; (exact fin3_rStart_ok)))) (fun mc60 ho60 => ?_)
                refine VO.kp [160, 137, 133, 0] [(160, mc60), (137, mone g36 (.cells [Value.int .i64 (x35.1), Value.bool x35.2.1, Value.int .i64 (x35.2.2.1), Value.slice q35_A3 (x35.2.2.2.length) (q35_c3)].toArray 103 (0, 0))), (133, q28_n5), (0, mout (wm W) (m0))] ?_
                refine VO.k9 0 1 2 6 7 8 10 22 43 ?_
                refine VC.rs ?_
                refine VO.mv ?_
                refine VO.y rfl (.nilp rfl) ?_
                refine VO.y rfl (.fa rfl tst99 rfl) ?_
                obtain ⟨q61_E, q61_A1, q61_c1, q61_A2, q61_c2, q61_A3, q61_c3, q61_A4, q61_c4, q61_A5, q61_c5, q61_n1, q61_n2, q61_n3, q61_n4, q61_n5, _, q61_S, q61_1, q61_2, q61_3, q61_4, q61_5, q61_8, q61_9⟩ := openP_ref05Disk (x0 := (toR (keepR (fromR d0) d1.toNat) d0.2.2.2.2.2.1).1) (x1 := ((toR (keepR (fromR d0) d1.toNat) d0.2.2.2.2.2.1).2.1).1) (x2 := doneR (((toR (keepR (fromR d0) d1.toNat) d0.2.2.2.2.2.1).2.1).2.1) (x35.1, false, 0, (x35.2.2.2).take ((min d2 (((x35.2.2.2.length : Nat) : Int) - 1)).toNat))) (x3 := ((toR (keepR (fromR d0) d1.toNat) d0.2.2.2.2.2.1).2.1).2.2.1) (x4 := ((toR (keepR (fromR d0) d1.toNat) d0.2.2.2.2.2.1).2.1).2.2.2) (x5 := []) (x6 := (toR (keepR (fromR d0) d1.toNat) d0.2.2.2.2.2.1).2.2.2.1) (x7 := (toR (keepR (fromR d0) d1.toNat) d0.2.2.2.2.2.1).2.2.2.2.1) (x8 := (toR (keepR (fromR d0) d1.toNat) d0.2.2.2.2.2.1).2.2.2.2.2.1) (x9 := (toR (keepR (fromR d0) d1.toNat) d0.2.2.2.2.2.1).2.2.2.2.2.2) ho60
                have q61_r1 := q61_1.rm
                have q61_r2 := q61_2.rm
                have q61_r3 := q61_3.rm
                have q61_r4 := q61_4.rm
                have q61_r5 := q61_5.rm
                simp only [inK] at q61_8
                simp only [inK] at q61_9
                refine VO.inv _ (fun _ h => h.parts (i := 160) rfl q61_S [167, 162, 163, 164, 165, 166]) ?_
                refine VO.store (k := 1) 167 rfl rfl (.inr ⟨tk4, rfl⟩) rfl rfl rfl rfl rfl ?_
                refine VO.clsP 168 [167, 162, 163, 164, 165, 166] rfl (fun hg68 => (mkP_ref05Disk ((toR (keepR (fromR d0) d1.toNat) d0.2.2.2.2.2.1).1) (((toR (keepR (fromR d0) d1.toNat) d0.2.2.2.2.2.1).2.1).1) (doneR (((toR (keepR (fromR d0) d1.toNat) d0.2.2.2.2.2.1).2.1).2.1) (x35.1, false, 0, (x35.2.2.2).take ((min d2 (((x35.2.2.2.length : Nat) : Int) - 1)).toNat))) (((toR (keepR (fromR d0) d1.toNat) d0.2.2.2.2.2.1).2.1).2.2.1) (((toR (keepR (fromR d0) d1.toNat) d0.2.2.2.2.2.1).2.1).2.2.2) [] ((toR (keepR (fromR d0) d1.toNat) d0.2.2.2.2.2.1).2.2.2.1) false ((toR (keepR (fromR d0) d1.toNat) d0.2.2.2.2.2.1).2.2.2.2.2.1) ((toR (keepR (fromR d0) d1.toNat) d0.2.2.2.2.2.1).2.2.2.2.2.2) hg68 (OwnL.ow (Ow.ownl q61_1 rfl mnil) rfl) (OwnL.ow (Ow.ownl q61_2 rfl mnil) rfl) (OwnL.ow (Ow.ownl q61_3 rfl mnil) rfl) (OwnL.ow (Ow.ownl q61_4 rfl mnil) rfl) q61_5 (by simp only [inK]; (exact fin3_rStart_ok)) (by simp only [inK]; (exact fin3_rStart_ok)))) (fun mc68 ho68 => ?_)
                refine VO.k9 0 1 2 6 7 8 10 22 43 ?_
                refine VC.rs ?_
                refine VO.mv ?_
                refine VO.y rfl (.nilp rfl) ?_
                refine VO.y rfl (.fa rfl tst99 rfl) ?_
                obtain ⟨q69_E, q69_A1, q69_c1, q69_A2, q69_c2, q69_A3, q69_c3, q69_A4, q69_c4, q69_A5, q69_c5, q69_n1, q69_n2, q69_n3, q69_n4, q69_n5, _, q69_S, q69_1, q69_2, q69_3, q69_4, q69_5, q69_8, q69_9⟩ := openP_ref05Disk (x0 := (toR (keepR (fromR d0) d1.toNat) d0.2.2.2.2.2.1).1) (x1 := ((toR (keepR (fromR d0) d1.toNat) d0.2.2.2.2.2.1).2.1).1) (x2 := doneR (((toR (keepR (fromR d0) d1.toNat) d0.2.2.2.2.2.1).2.1).2.1) (x35.1, false, 0, (x35.2.2.2).take ((min d2 (((x35.2.2.2.length : Nat) : Int) - 1)).toNat))) (x3 := ((toR (keepR (fromR d0) d1.toNat) d0.2.2.2.2.2.1).2.1).2.2.1) (x4 := ((toR (keepR (fromR d0) d1.toNat) d0.2.2.2.2.2.1).2.1).2.2.2) (x5 := []) (x6 := (toR (keepR (fromR d0) d1.toNat) d0.2.2.2.2.2.1).2.2.2.1) (x7 := false) (x8 := (toR (keepR (fromR d0) d1.toNat) d0.2.2.2.2.2.1).2.2.2.2.2.1) (x9 := (toR (keepR (fromR d0) d1.toNat) d0.2.2.2.2.2.1).2.2.2.2.2.2) ho68
                have q69_r1 := q69_1.rm
                have q69_r2 := q69_2.rm
                have q69_r3 := q69_3.rm
                have q69_r4 := q69_4.rm
                have q69_r5 := q69_5.rm
                simp only [inK] at q69_8
                simp only [inK] at q69_9
                refine VO.inv _ (fun _ h => h.parts (i := 168) rfl q69_S [175, 170, 171, 172, 173, 174]) ?_
                refine VO.store (k := 1) 175 rfl rfl (.inr ⟨tk4, rfl⟩) rfl rfl rfl rfl rfl ?_
                refine VO.clsP 176 [175, 170, 171, 172, 173, 174] rfl (fun hg76 => (mkP_ref05Disk ((toR (keepR (fromR d0) d1.toNat) d0.2.2.2.2.2.1).1) (((toR (keepR (fromR d0) d1.toNat) d0.2.2.2.2.2.1).2.1).1) (doneR (((toR (keepR (fromR d0) d1.toNat) d0.2.2.2.2.2.1).2.1).2.1) (x35.1, false, 0, (x35.2.2.2).take ((min d2 (((x35.2.2.2.length : Nat) : Int) - 1)).toNat))) (((toR (keepR (fromR d0) d1.toNat) d0.2.2.2.2.2.1).2.1).2.2.1) (((toR (keepR (fromR d0) d1.toNat) d0.2.2.2.2.2.1).2.1).2.2.2) [] true false ((toR (keepR (fromR d0) d1.toNat) d0.2.2.2.2.2.1).2.2.2.2.2.1) ((toR (keepR (fromR d0) d1.toNat) d0.2.2.2.2.2.1).2.2.2.2.2.2) hg76 (OwnL.ow (Ow.ownl q69_1 rfl mnil) rfl) (OwnL.ow (Ow.ownl q69_2 rfl mnil) rfl) (OwnL.ow (Ow.ownl q69_3 rfl mnil) rfl) (OwnL.ow (Ow.ownl q69_4 rfl mnil) rfl) q69_5 (by simp only [inK]; (exact fin3_rStart_ok)) (by simp only [inK]; (exact fin3_rStart_ok)))) (fun mc76 ho76 => ?_)
                refine VO.k9 0 1 2 6 7 8 10 22 43 ?_
                refine VC.rs ?_
                refine VO.as ?_
                refine VO.kp [176, 137, 133, 0] [(176, mc76), (137, mone g36 (.cells [Value.int .i64 (x35.1), Value.bool x35.2.1, Value.int .i64 (x35.2.2.1), Value.slice q35_A3 (x35.2.2.2.length) (q35_c3)].toArray 103 (0, 0))), (133, q28_n5), (0, mout (wm W) (m0))] ?_
                refine VO.k9 0 1 2 6 7 8 10 22 43 ?_
                refine VC.ret ?_
                refine ⟨_, _, res_run (rs := [.tmp 6]) rfl (.tmp rfl .nil), fun W_ hI => out_of (l := [mc76]) hI [176] rfl rfl (mle_refl _) (fun hS_ => ?_)⟩
                dsimp only [packV]
                have hm0_ : (toR (dStart (fromR d0) d1 d2).1 d0.2.2.2.2.2.1 : Dref05Disk) = ((toR (keepR (fromR d0) d1.toNat) d0.2.2.2.2.2.1).1, (((toR (keepR (fromR d0) d1.toNat) d0.2.2.2.2.2.1).2.1).1, doneR (((toR (keepR (fromR d0) d1.toNat) d0.2.2.2.2.2.1).2.1).2.1) (x35.1, false, 0, (x35.2.2.2).take ((min d2 (((x35.2.2.2.length : Nat) : Int) - 1)).toNat)), ((toR (keepR (fromR d0) d1.toNat) d0.2.2.2.2.2.1).2.1).2.2), [], true, false, (toR (keepR (fromR d0) d1.toNat) d0.2.2.2.2.2.1).2.2.2.2.2) := by first | rfl | (exact fin0_rStart_ok)
                refine ⟨?_, ?_⟩
                rotate_left
                · rw [hm0_]; exact (Ow.up ho76 (hS_.1 _ (.head _)))
                all_goals (first | rfl | (exact fin1_rStart_ok))
              · -- FFFFTT2
                refine VD.y rfl rfl (.inl rfl) (.ixa (i := 2) (o := 3) rfl rfl tar69 hi38 rfl rfl) ?_
                refine VD.y rfl rfl (.inl rfl) (.ld1 134 rfl tk25 rfl (cellsAt_one rfl rfl)) ?_
                refine VD.y rfl rfl (.inl rfl) (.fa rfl tst103 rfl) ?_
                refine VD.y rfl rfl (.inl rfl) (.ld1 137 rfl tk3 rfl (cellsAt_one rfl rfl)) ?_
                refine VD.y rfl rfl (.inl rfl) (.fa rfl tst103 rfl) ?_
                refine VD.y rfl rfl (.inl rfl) (.ld1 137 rfl tk25 rfl (cellsAt_one rfl rfl)) ?_
                refine VD.y rfl rfl (.inl rfl) (.mv rfl) ?_
                have hs77 := q35_3.pre (j := ((min d2 (((x35.2.2.2.length : Nat) : Int) - 1)).toNat)) (by exact fin3_rStart_ok)
                refine VD.y rfl rfl (.inl rfl) (.slHI ((min d2 (((x35.2.2.2.length : Nat) : Int) - 1)).toNat) rfl rfl tsl25 (by exact fin3_rStart_ok) (by exact fin3_rStart_ok)) ?_
                refine VD.y rfl rfl (.inl rfl) (.bst (cs := [Value.int .i64 (x35.1), Value.bool false, Value.int .i64 (0), Value.slice q35_A3 ((min d2 (((x35.2.2.2.length : Nat) : Int) - 1)).toNat) (q35_c3)]) rfl tst103 tz103 rfl) ?_
                refine VD.y rfl rfl (.inl rfl) (.nilp rfl) ?_
                refine VD.y rfl rfl (.inl rfl) (.fa rfl tst99 rfl) ?_
                refine VD.callN 178 rfl rfl (.inl rfl) fnOk85 rfl (fun _ h => h.sub [137, 134, 129, 130, 131, 132, 133, 0]) (fun W hW => rWith_ok W (OwnL.rd (Ow.ownl q28_3 rfl mnil) (hW.at (i := 131) rfl) (mle_nil _)) (mk_ref05Raw (m := wm W) x35.1 false 0 ((x35.2.2.2).take ((min d2 (((x35.2.2.2.length : Nat) : Int) - 1)).toNat)) (by simp only [inK]; (exact fin3_rStart_ok)) (by simp only [inK]; (exact fin3_rStart_ok)) (Rd.mono hs77 (hW.at (i := 133) rfl))) (by intro h_; cases h_) (by (have h_ := ‹_[d1.toNat]? = some _›; rw [rkeep_wait] at h_; have h2_ := (rstart_good e0 h_).2.2; first | (rw [getF0 ‹_ = (0 : Int)›] at h2_; exact room_le h2_ (by omega)) | (rw [getF1 ‹_ = (1 : Int)›] at h2_; exact room_le h2_ (by omega)) | (rw [getF2 ‹_ = (2 : Int)›] at h2_; exact room_le h2_ (by omega)) | (rw [getF3 ‹_ = (3 : Int)›] at h2_; exact room_le h2_ (by omega))))) (fun v78 m78 hv78 => ?_)
                try dsimp only at hv78
                obtain ⟨s78_0, rfl, f78_0⟩ := hv78
                obtain ⟨A78_0, c78_0, eq78_0, l78_0, k78_0⟩ := f78_0.slice
                subst eq78_0
                simp only [maxLen] at k78_0
                refine VD.nil rfl ?_ rfl
                refine VO.y rfl (.ixa (i := 2) (o := 3) rfl rfl tar69 hi38 rfl rfl) ?_
                refine VO.store (k := 1) 134 rfl rfl (.inr ⟨tk25, rfl⟩) rfl rfl rfl rfl rfl ?_
                refine VO.k9 0 1 2 6 7 8 10 22 43 ?_
                refine outN ?_
                refine VC.rs ?_
                refine VO.mv ?_
                refine VO.y rfl (.nilp rfl) ?_
                refine VO.y rfl (.fa rfl tst99 rfl) ?_
                refine VO.store (k := 1) 134 rfl rfl (.inr ⟨tk97, rfl⟩) rfl rfl rfl rfl rfl ?_
                refine VO.clsP 179 [134, 129, 130, 178, 132] rfl (fun hg79 => (mkP_ref05Disk ((toR (keepR (fromR d0) d1.toNat) d0.2.2.2.2.2.1).1) (((toR (keepR (fromR d0) d1.toNat) d0.2.2.2.2.2.1).2.1).1) (((toR (keepR (fromR d0) d1.toNat) d0.2.2.2.2.2.1).2.1).2.1) (doneR (((toR (keepR (fromR d0) d1.toNat) d0.2.2.2.2.2.1).2.1).2.2.1) (x35.1, false, 0, (x35.2.2.2).take ((min d2 (((x35.2.2.2.length : Nat) : Int) - 1)).toNat))) (((toR (keepR (fromR d0) d1.toNat) d0.2.2.2.2.2.1).2.1).2.2.2) [] ((toR (keepR (fromR d0) d1.toNat) d0.2.2.2.2.2.1).2.2.2.1) ((toR (keepR (fromR d0) d1.toNat) d0.2.2.2.2.2.1).2.2.2.2.1) ((toR (keepR (fromR d0) d1.toNat) d0.2.2.2.2.2.1).2.2.2.2.2.1) ((toR (keepR (fromR d0) d1.toNat) d0.2.2.2.2.2.1).2.2.2.2.2.2) (Seps.nilAt 5 hg79) (OwnL.ow (Ow.ownl q28_1 rfl mnil) rfl) (OwnL.ow (Ow.ownl q28_2 rfl mnil) rfl) (OwnL.ow (Ow.ownl f78_0 rfl mnil) rfl) (OwnL.ow (Ow.ownl q28_4 rfl mnil) rfl) (Ow.nil _ _) (by simp only [inK]; (exact fin3_rStart_ok)) (by simp only [inK]; (exact fin3_rStart_ok)))) (fun mc79 ho79 => ?_)
                refine VO.kp [179, 137, 133, 0] [(179, mc79), (137, mone g36 (.cells [Value.int .i64 (x35.1), Value.bool x35.2.1, Value.int .i64 (x35.2.2.1), Value.slice q35_A3 (x35.2.2.2.length) (q35_c3)].toArray 103 (0, 0))), (133, q28_n5), (0, mout (wm W) (m0))] ?_
                refine VO.k9 0 1 2 6 7 8 10 22 43 ?_
                refine VC.rs ?_
                refine VO.mv ?_
                refine VO.y rfl (.nilp rfl) ?_
                refine VO.y rfl (.fa rfl tst99 rfl) ?_
                obtain ⟨q80_E, q80_A1, q80_c1, q80_A2, q80_c2, q80_A3, q80_c3, q80_A4, q80_c4, q80_A5, q80_c5, q80_n1, q80_n2, q80_n3, q80_n4, q80_n5, _, q80_S, q80_1, q80_2, q80_3, q80_4, q80_5, q80_8, q80_9⟩ := openP_ref05Disk (x0 := (toR (keepR (fromR d0) d1.toNat) d0.2.2.2.2.2.1).1) (x1 := ((toR (keepR (fromR d0) d1.toNat) d0.2.2.2.2.2.1).2.1).1) (x2 := ((toR (keepR (fromR d0) d1.toNat) d0.2.2.2.2.2.1).2.1).2.1) (x3 := doneR (((toR (keepR (fromR d0) d1.toNat) d0.2.2.2.2.2.1).2.1).2.2.1) (x35.1, false, 0, (x35.2.2.2).take ((min d2 (((x35.2.2.2.length : Nat) : Int) - 1)).toNat))) (x4 := ((toR (keepR (fromR d0) d1.toNat) d0.2.2.2.2.2.1).2.1).2.2.2) (x5 := []) (x6 := (toR (keepR (fromR d0) d1.toNat) d0.2.2.2.2.2.1).2.2.2.1) (x7 := (toR (keepR (fromR d0) d1.toNat) d0.2.2.2.2.2.1).2.2.2.2.1) (x8 := (toR (keepR (fromR d0) d1.toNat) d0.2.2.2.2.2.1).2.2.2.2.2.1) (x9 := (toR (keepR (fromR d0) d1.toNat) d0.2.2.2.2.2.1).2.2.2.2.2.2) ho79
                have q80_r1 := q80_1.rm
                have q80_r2 := q80_2.rm
                have q80_r3 := q80_3.rm
                have q80_r4 := q80_4.rm
                have q80_r5 := q80_5.rm
                simp only [inK] at q80_8
                simp only [inK] at q80_9
                refine VO.inv _ (fun _ h => h.parts (i := 179) rfl q80_S [186, 181, 182, 183, 184, 185]) ?_
                refine VO.store (k := 1) 186 rfl rfl (.inr ⟨tk4, rfl⟩) rfl rfl rfl rfl rfl ?_
                refine VO.clsP 187 [186, 181, 182, 183, 184, 185] rfl (fun hg87 => (mkP_ref05Disk ((toR (keepR (fromR d0) d1.toNat) d0.2.2.2.2.2.1).1) (((toR (keepR (fromR d0) d1.toNat) d0.2.2.2.2.2.1).2.1).1) (((toR (keepR (fromR d0) d1.toNat) d0.2.2.2.2.2.1).2.1).2.1) (doneR (((toR (keepR (fromR d0) d1.toNat) d0.2.2.2.2.2.1).2.1).2.2.1) (x35.1, false, 0, (x35.2.2.2).take ((min d2 (((x35.2.2.2.length : Nat) : Int) - 1)).toNat))) (((toR (keepR (fromR d0) d1.toNat) d0.2.2.2.2.2.1).2.1).2.2.2) [] ((toR (keepR (fromR d0) d1.toNat) d0.2.2.2.2.2.1).2.2.2.1) false ((toR (keepR (fromR d0) d1.toNat) d0.2.2.2.2.2.1).2.2.2.2.2.1) ((toR (keepR (fromR d0) d1.toNat) d0.2.2.2.2.2.1).2.2.2.2.2.2) hg87 (OwnL.ow (Ow.ownl q80_1 rfl mnil) rfl) (OwnL.ow (Ow.ownl q80_2 rfl mnil) rfl) (OwnL.ow (Ow.ownl q80_3 rfl mnil) rfl) (OwnL.ow (Ow.ownl q80_4 rfl mnil) rfl) q80_5 (by simp only [inK]; (exact fin3_rStart_ok)) (by simp only [inK]; (exact fin3_rStart_ok)))) (fun mc87 ho87 => ?_)
                refine VO.k9 0 1 2 6 7 8 10 22 43 ?_
                refine VC.rs ?_
                refine VO.mv ?_
                refine VO.y rfl (.nilp rfl) ?_
                refine VO.y rfl (.fa rfl tst99 rfl) ?_
                obtain ⟨q88_E, q88_A1, q88_c1, q88_A2, q88_c2, q88_A3, q88_c3, q88_A4, q88_c4, q88_A5, q88_c5, q88_n1, q88_n2, q88_n3, q88_n4, q88_n5, _, q88_S, q88_1, q88_2, q88_3, q88_4, q88_5, q88_8, q88_9⟩ := openP_ref05Disk (x0 := (toR (keepR (fromR d0) d1.toNat) d0.2.2.2.2.2.1).1) (x1 := ((toR (keepR (fromR d0) d1.toNat) d0.2.2.2.2.2.1).2.1).1) (x2 := ((toR (keepR (fromR d0) d1.toNat) d0.2.2.2.2.2.1).2.1).2.1) (x3 := doneR (((toR (keepR (fromR d0) d1.toNat) d0.2.2.2.2.2.1).2.1).2.2.1) (x35.1, false, 0, (x35.2.2.2).take ((min d2 (((x35.2.2.2.length : Nat) : Int) - 1)).toNat))) (x4 := ((toR (keepR (fromR d0) d1.toNat) d0.2.2.2.2.2.1).2.1).2.2.2) (x5 := []) (x6 := (toR (keepR (fromR d0) d1.toNat) d0.2.2.2.2.2.1).2.2.2.1) (x7 := false) (x8 := (toR (keepR (fromR d0) d1.toNat) d0.2.2.2.2.2.1).2.2.2.2.2.1) (x9 := (toR (keepR (fromR d0) d1.toNat) d0.2.2.2.2.2.1).2.2.2.2.2.2) ho87
                have q88_r1 := q88_1.rm
                have q88_r2 := q88_2.rm
                have q88_r3 := q88_3.rm
                have q88_r4 := q88_4.rm
                have q88_r5 := q88_5.rm
                simp only [inK] at q88_8
                simp only [inK] at q88_9
                refine VO.inv _ (fun _ h => h.parts (i := 187) rfl q88_S [194, 189, 190, 191, 192, 193]) ?_
                refine VO.store (k := 1) 194 rfl rfl (.inr ⟨tk4, rfl⟩) rfl rfl rfl rfl rfl ?_
                refine VO.clsP 195 [194, 189, 190, 191, 192, 193] rfl (fun hg95 => (mkP_ref05Disk ((toR (keepR (fromR d0) d1.toNat) d0.2.2.2.2.2.1).1) (((toR (keepR (fromR d0) d1.toNat) d0.2.2.2.2.2.1).2.1).1) (((toR (keepR (fromR d0) d1.toNat) d0.2.2.2.2.2.1).2.1).2.1) (doneR (((toR (keepR (fromR d0) d1.toNat) d0.2.2.2.2.2.1).2.1).2.2.1) (x35.1, false, 0, (x35.2.2.2).take ((min d2 (((x35.2.2.2.length : Nat) : Int) - 1)).toNat))) (((toR (keepR (fromR d0) d1.toNat) d0.2.2.2.2.2.1).2.1).2.2.2) [] true false ((toR (keepR (fromR d0) d1.toNat) d0.2.2.2.2.2.1).2.2.2.2.2.1) ((toR (keepR (fromR d0) d1.toNat) d0.2.2.2.2.2.1).2.2.2.2.2.2) hg95 (OwnL.ow (Ow.ownl q88_1 rfl mnil) rfl) (OwnL.ow (Ow.ownl q88_2 rfl mnil) rfl) (OwnL.ow (Ow.ownl q88_3 rfl mnil) rfl) (OwnL.ow (Ow.ownl q88_4 rfl mnil) rfl) q88_5 (by simp only [inK]; (exact fin3_rStart_ok)) (by simp only [inK]; (exact fin3_rStart_ok)))) (fun mc95 ho95 => ?_)
                refine VO.k9 0 1 2 6 7 8 10 22 43 ?_
                refine VC.rs ?_
                refine VO.as ?_
                refine VO.kp [195, 137, 133, 0] [(195, mc95), (137, mone g36 (.cells [Value.int .i64 (x35.1), Value.bool x35.2.1, Value.int .i64 (x35.2.2.1), Value.slice q35_A3 (x35.2.2.2.length) (q35_c3)].toArray 103 (0, 0))), (133, q28_n5), (0, mout (wm W) (m0))] ?_
                refine VO.k9 0 1 2 6 7 8 10 22 43 ?_
                refine VC.ret ?_
                refine ⟨_, _, res_run (rs := [.tmp 6]) rfl (.tmp rfl .nil), fun W_ hI => out_of (l := [mc95]) hI [195] rfl rfl (mle_refl _) (fun hS_ => ?_)⟩
                dsimp only [packV]
                have hm0_ : (toR (dStart (fromR d0) d1 d2).1 d0.2.2.2.2.2.1 : Dref05Disk) = ((toR (keepR (fromR d0) d1.toNat) d0.2.2.2.2.2.1).1, (((toR (keepR (fromR d0) d1.toNat) d0.2.2.2.2.2.1).2.1).1, ((toR (keepR (fromR d0) d1.toNat) d0.2.2.2.2.2.1).2.1).2.1, doneR (((toR (keepR (fromR d0) d1.toNat) d0.2.2.2.2.2.1).2.1).2.2.1) (x35.1, false, 0, (x35.2.2.2).take ((min d2 (((x35.2.2.2.length : Nat) : Int) - 1)).toNat)), ((toR (keepR (fromR d0) d1.toNat) d0.2.2.2.2.2.1).2.1).2.2.2), [], true, false, (toR (keepR (fromR d0) d1.toNat) d0.2.2.2.2.2.1).2.2.2.2.2) := by first | rfl | (exact fin0_rStart_ok)
                refine ⟨?_, ?_⟩
                rotate_left
                · rw [hm0_]; exact (Ow.up ho95 (hS_.1 _ (.head _)))
                all_goals (first | rfl | (exact fin1_rStart_ok))
              · -- FFFFTT3
                refine VD.y rfl rfl (.inl rfl) (.ixa (i := 3) (o := 4) rfl rfl tar69 hi38 rfl rfl) ?_
                refine VD.y rfl rfl (.inl rfl) (.ld1 134 rfl tk25 rfl (cellsAt_one rfl rfl)) ?_
                refine VD.y rfl rfl (.inl rfl) (.fa rfl tst103 rfl) ?_
                refine VD.y rfl rfl (.inl rfl) (.ld1 137 rfl tk3 rfl (cellsAt_one rfl rfl)) ?_
                refine VD.y rfl rfl (.inl rfl) (.fa rfl tst103 rfl) ?_
                refine VD.y rfl rfl (.inl rfl) (.ld1 137 rfl tk25 rfl (cellsAt_one rfl rfl)) ?_
                refine VD.y rfl rfl (.inl rfl) (.mv rfl) ?_
                have hs96 := q35_3.pre (j := ((min d2 (((x35.2.2.2.length : Nat) : Int) - 1)).toNat)) (by exact fin3_rStart_ok)
                refine VD.y rfl rfl (.inl rfl) (.slHI ((min d2 (((x35.2.2.2.length : Nat) : Int) - 1)).toNat) rfl rfl tsl25 (by exact fin3_rStart_ok) (by exact fin3_rStart_ok)) ?_
                refine VD.y rfl rfl (.inl rfl) (.bst (cs := [Value.int .i64 (x35.1), Value.bool false, Value.int .i64 (0), Value.slice q35_A3 ((min d2 (((x35.2.2.2.length : Nat) : Int) - 1)).toNat) (q35_c3)]) rfl tst103 tz103 rfl) ?_
                refine VD.y rfl rfl (.inl rfl) (.nilp rfl) ?_
                refine VD.y rfl rfl (.inl rfl) (.fa rfl tst99 rfl) ?_
                refine VD.callN 197 rfl rfl (.inl rfl) fnOk85 rfl (fun _ h => h.sub [137, 134, 129, 130, 131, 132, 133, 0]) (fun W hW => rWith_ok W (OwnL.rd (Ow.ownl q28_4 rfl mnil) (hW.at (i := 132) rfl) (mle_nil _)) (mk_ref05Raw (m := wm W) x35.1 false 0 ((x35.2.2.2).take ((min d2 (((x35.2.2.2.length : Nat) : Int) - 1)).toNat)) (by simp only [inK]; (exact fin3_rStart_ok)) (by simp only [inK]; (exact fin3_rStart_ok)) (Rd.mono hs96 (hW.at (i := 133) rfl))) (by intro h_; cases h_) (by (have h_ := ‹_[d1.toNat]? = some _›; rw [rkeep_wait] at h_; have h2_ := (rstart_good e0 h_).2.2; first | (rw [getF0 ‹_ = (0 : Int)›] at h2_; exact room_le h2_ (by omega)) | (rw [getF1 ‹_ = (1 : Int)›] at h2_; exact room_le h2_ (by omega)) | (rw [getF2 ‹_ = (2 : Int)›] at h2_; exact room_le h2_ (by omega)) | (rw [getF3 ‹_ = (3 : Int)›] at h2_; exact room_le h2_ (by omega))))) (fun v97 m97 hv97 => ?_)
                try dsimp only at hv97
                obtain ⟨s97_0, rfl, f97_0⟩ := hv97
                obtain ⟨A97_0, c97_0, eq97_0, l97_0, k97_0⟩ := f97_0.slice
                subst eq97_0
                simp only [maxLen] at k97_0
                refine VD.nil rfl ?_ rfl
                refine VO.y rfl (.ixa (i := 3) (o := 4) rfl rfl tar69 hi38 rfl rfl) ?_
                refine VO.store (k := 1) 134 rfl rfl (.inr ⟨tk25, rfl⟩) rfl rfl rfl rfl rfl ?_
                refine VO.k9 0 1 2 6 7 8 10 22 43 ?_
                refine outN ?_
                refine VC.rs ?_
                refine VO.mv ?_
                refine VO.y rfl (.nilp rfl) ?_
                refine VO.y rfl (.fa rfl tst99 rfl) ?_
                refine VO.store (k := 1) 134 rfl rfl (.inr ⟨tk97, rfl⟩) rfl rfl rfl rfl rfl ?_
                refine VO.clsP 198 [134, 129, 130, 131, 197] rfl (fun hg98 => (mkP_ref05Disk ((toR (keepR (fromR d0) d1.toNat) d0.2.2.2.2.2.1).1) (((toR (keepR (fromR d0) d1.toNat) d0.2.2.2.2.2.1).2.1).1) (((toR (keepR (fromR d0) d1.toNat) d0.2.2.2.2.2.1).2.1).2.1) (((toR (keepR (fromR d0) d1.toNat) d0.2.2.2.2.2.1).2.1).2.2.1) (doneR (((toR (keepR (fromR d0) d1.toNat) d0.2.2.2.2.2.1).2.1).2.2.2) (x35.1, false, 0, (x35.2.2.2).take ((min d2 (((x35.2.2.2.length : Nat) : Int) - 1)).toNat))) [] ((toR (keepR (fromR d0) d1.toNat) d0.2.2.2.2.2.1).2.2.2.1) ((toR (keepR (fromR d0) d1.toNat) d0.2.2.2.2.2.1).2.2.2.2.1) ((toR (keepR (fromR d0) d1.toNat) d0.2.2.2.2.2.1).2.2.2.2.2.1) ((toR (keepR (fromR d0) d1.toNat) d0.2.2.2.2.2.1).2.2.2.2.2.2) (Seps.nilAt 5 hg98) (OwnL.ow (Ow.ownl q28_1 rfl mnil) rfl) (OwnL.ow (Ow.ownl q28_2 rfl mnil) rfl) (OwnL.ow (Ow.ownl q28_3 rfl mnil) rfl) (OwnL.ow (Ow.ownl f97_0 rfl mnil) rfl) (Ow.nil _ _) (by simp only [inK]; (exact fin3_rStart_ok)) (by simp only [inK]; (exact fin3_rStart_ok)))) (fun mc98 ho98 => ?_)
                refine VO.kp [198, 137, 133, 0] [(198, mc98), (137, mone g36 (.cells [Value.int .i64 (x35.1), Value.bool x35.2.1, Value.int .i64 (x35.2.2.1), Value.slice q35_A3 (x35.2.2.2.length) (q35_c3)].toArray 103 (0, 0))), (133, q28_n5), (0, mout (wm W) (m0))] ?_
                refine VO.k9 0 1 2 6 7 8 10 22 43 ?_
                refine VC.rs ?_
                refine VO.mv ?_
                refine VO.y rfl (.nilp rfl) ?_
                refine VO.y rfl (.fa rfl tst99 rfl) ?_
                obtain ⟨q99_E, q99_A1, q99_c1, q99_A2, q99_c2, q99_A3, q99_c3, q99_A4, q99_c4, q99_A5, q99_c5, q99_n1, q99_n2, q99_n3, q99_n4, q99_n5, _, q99_S, q99_1, q99_2, q99_3, q99_4, q99_5, q99_8, q99_9⟩ := openP_ref05Disk (x0 := (toR (keepR (fromR d0) d1.toNat) d0.2.2.2.2.2.1).1) (x1 := ((toR (keepR (fromR d0) d1.toNat) d0.2.2.2.2.2.1).2.1).1) (x2 := ((toR (keepR (fromR d0) d1.toNat) d0.2.2.2.2.2.1).2.1).2.1) (x3 := ((toR (keepR (fromR d0) d1.toNat) d0.2.2.2.2.2.1).2.1).2.2.1) (x4 := doneR (((toR (keepR (fromR d0) d1.toNat) d0.2.2.2.2.2.1).2.1).2.2.2) (x35.1, false, 0, (x35.2.2.2).take ((min d2 (((x35.2.2.2.length : Nat) : Int) - 1)).toNat))) (x5 := []) (x6 := (toR (keepR (fromR d0) d1.toNat) d0.2.2.2.2.2.1).2.2.2.1) (x7 := (toR (keepR (fromR d0) d1.toNat) d0.2.2.2.2.2.1).2.2.2.2.1) (x8 := (toR (keepR (fromR d0) d1.toNat) d0.2.2.2.2.2.1).2.2.2.2.2.1) (x9 := (toR (keepR (fromR d0) d1.toNat) d0.2.2.2.2.2.1).2.2.2.2.2.2) ho98
                have q99_r1 := q99_1.rm
                have q99_r2 := q99_2.rm
                have q99_r3 := q99_3.rm
                have q99_r4 := q99_4.rm
                have q99_r5 := q99_5.rm
                simp only [inK] at q99_8
                simp only [inK] at q99_9
                refine VO.inv _ (fun _ h => h.parts (i := 198) rfl q99_S [205, 200, 201, 202, 203, 204]) ?_
                refine VO.store (k := 1) 205 rfl rfl (.inr ⟨tk4, rfl⟩) rfl rfl rfl rfl rfl ?_
                refine VO.clsP 206 [205, 200, 201, 202, 203, 204] rfl (fun hg106 => (mkP_ref05Disk ((toR (keepR (fromR d0) d1.toNat) d0.2.2.2.2.2.1).1) (((toR (keepR (fromR d0) d1.toNat) d0.2.2.2.2.2.1).2.1).1) (((toR (keepR (fromR d0) d1.toNat) d0.2.2.2.2.2.1).2.1).2.1) (((toR (keepR (fromR d0) d1.toNat) d0.2.2.2.2.2.1).2.1).2.2.1) (doneR (((toR (keepR (fromR d0) d1.toNat) d0.2.2.2.2.2.1).2.1).2.2.2) (x35.1, false, 0, (x35.2.2.2).take ((min d2 (((x35.2.2.2.length : Nat) : Int) - 1)).toNat))) [] ((toR (keepR (fromR d0) d1.toNat) d0.2.2.2.2.2.1).2.2.2.1) false ((toR (keepR (fromR d0) d1.toNat) d0.2.2.2.2.2.1).2.2.2.2.2.1) ((toR (keepR (fromR d0) d1.toNat) d0.2.2.2.2.2.1).2.2.2.2.2.2) hg106 (OwnL.ow (Ow.ownl q99_1 rfl mnil) rfl) (OwnL.ow (Ow.ownl q99_2 rfl mnil) rfl) (OwnL.ow (Ow.ownl q99_3 rfl mnil) rfl) (OwnL.ow (Ow.ownl q99_4 rfl mnil) rfl) q99_5 (by simp only [inK]; (exact fin3_rStart_ok)) (by simp only [inK]; (exact fin3_rStart_ok)))) (fun mc106 ho106 => ?_)
                refine VO.k9 0 1 2 6 7 8 10 22 43 ?_
                refine VC.rs ?_
                refine VO.mv ?_
                refine VO.y rfl (.nilp rfl) ?_
                refine VO.y rfl (.fa rfl tst99 rfl) ?_
                obtain ⟨q107_E, q107_A1, q107_c1, q107_A2, q107_c2, q107_A3, q107_c3, q107_A4, q107_c4, q107_A5, q107_c5, q107_n1, q107_n2, q107_n3, q107_n4, q107_n5, _, q107_S, q107_1, q107_2, q107_3, q107_4, q107_5, q107_8, q107_9⟩ := openP_ref05Disk (x0 := (toR (keepR (fromR d0) d1.toNat) d0.2.2.2.2.2.1).1) (x1 := ((toR (keepR (fromR d0) d1.toNat) d0.2.2.2.2.2.1).2.1).1) (x2 := ((toR (keepR (fromR d0) d1.toNat) d0.2.2.2.2.2.1).2.1).2.1) (x3 := ((toR (keepR (fromR d0) d1.toNat) d0.2.2.2.2.2.1).2.1).2.2.1) (x4 := doneR (((toR (keepR (fromR d0) d1.toNat) d0.2.2.2.2.2.1).2.1).2.2.2) (x35.1, false, 0, (x35.2.2.2).take ((min d2 (((x35.2.2.2.length : Nat) : Int) - 1)).toNat))) (x5 := []) (x6 := (toR (keepR (fromR d0) d1.toNat) d0.2.2.2.2.2.1).2.2.2.1) (x7 := false) (x8 := (toR (keepR (fromR d0) d1.toNat) d0.2.2.2.2.2.1).2.2.2.2.2.1) (x9 := (toR (keepR (fromR d0) d1.toNat) d0.2.2.2.2.2.1).2.2.2.2.2.2) ho106
                have q107_r1 := q107_1.rm
                have q107_r2 := q107_2.rm
                have q107_r3 := q107_3.rm
                have q107_r4 := q107_4.rm
                have q107_r5 := q107_5.rm
                simp only [inK] at q107_8
                simp only [inK] at q107_9
                refine VO.inv _ (fun _ h => h.parts (i := 206) rfl q107_S [213, 208, 209, 210, 211, 212]) ?_
                refine VO.store (k := 1) 213 rfl rfl (.inr ⟨tk4, rfl⟩) rfl rfl rfl rfl rfl ?_
                refine VO.clsP 214 [213, 208, 209, 210, 211, 212] rfl (fun hg114 => (mkP_ref05Disk ((toR (keepR (fromR d0) d1.toNat) d0.2.2.2.2.2.1).1) (((toR (keepR (fromR d0) d1.toNat) d0.2.2.2.2.2.1).2.1).1) (((toR (keepR (fromR d0) d1.toNat) d0.2.2.2.2.2.1).2.1).2.1) (((toR (keepR (fromR d0) d1.toNat) d0.2.2.2.2.2.1).2.1).2.2.1) (doneR (((toR (keepR (fromR d0) d1.toNat) d0.2.2.2.2.2.1).2.1).2.2.2) (x35.1, false, 0, (x35.2.2.2).take ((min d2 (((x35.2.2.2.length : Nat) : Int) - 1)).toNat))) [] true false ((toR (keepR (fromR d0) d1.toNat) d0.2.2.2.2.2.1).2.2.2.2.2.1) ((toR (keepR (fromR d0) d1.toNat) d0.2.2.2.2.2.1).2.2.2.2.2.2) hg114 (OwnL.ow (Ow.ownl q107_1 rfl mnil) rfl) (OwnL.ow (Ow.ownl q107_2 rfl mnil) rfl) (OwnL.ow (Ow.ownl q107_3 rfl mnil) rfl) (OwnL.ow (Ow.ownl q107_4 rfl mnil) rfl) q107_5 (by simp only [inK]; (exact fin3_rStart_ok)) (by simp only [inK]; (exact fin3_rStart_ok)))) (fun mc114 ho114 => ?_)
                refine VO.k9 0 1 2 6 7 8 10 22 43 ?_
                refine VC.rs ?_
                refine VO.as ?_
                refine VO.kp [214, 137, 133, 0] [(214, mc114), (137, mone g36 (.cells [Value.int .i64 (x35.1), Value.bool x35.2.1, Value.int .i64 (x35.2.2.1), Value.slice q35_A3 (x35.2.2.2.length) (q35_c3)].toArray 103 (0, 0))), (133, q28_n5), (0, mout (wm W) (m0))] ?_
                refine VO.k9 0 1 2 6 7 8 10 22 43 ?_
                refine VC.ret ?_
                refine ⟨_, _, res_run (rs := [.tmp 6]) rfl (.tmp rfl .nil), fun W_ hI => out_of (l := [mc114]) hI [214] rfl rfl (mle_refl _) (fun hS_ => ?_)⟩
                dsimp only [packV]
                have hm0_ : (toR (dStart (fromR d0) d1 d2).1 d0.2.2.2.2.2.1 : Dref05Disk) = ((toR (keepR (fromR d0) d1.toNat) d0.2.2.2.2.2.1).1, (((toR (keepR (fromR d0) d1.toNat) d0.2.2.2.2.2.1).2.1).1, ((toR (keepR (fromR d0) d1.toNat) d0.2.2.2.2.2.1).2.1).2.1, ((toR (keepR (fromR d0) d1.toNat) d0.2.2.2.2.2.1).2.1).2.2.1, doneR (((toR (keepR (fromR d0) d1.toNat) d0.2.2.2.2.2.1).2.1).2.2.2) (x35.1, false, 0, (x35.2.2.2).take ((min d2 (((x35.2.2.2.length : Nat) : Int) - 1)).toNat))), [], true, false, (toR (keepR (fromR d0) d1.toNat) d0.2.2.2.2.2.1).2.2.2.2.2) := by first | rfl | (exact fin0_rStart_ok)
                refine ⟨?_, ?_⟩
                rotate_left
                · rw [hm0_]; exact (Ow.up ho114 (hS_.1 _ (.head _)))
                all_goals (first | rfl | (exact fin1_rStart_ok))
            · -- FFFFTF
              refine VC.skip ?_
              refine outN ?_
              refine VC.rs ?_
              refine VO.mv ?_
              refine VO.y rfl (.nilp rfl) ?_
              refine VO.y rfl (.fa rfl tst99 rfl) ?_
              obtain ⟨q115_E, q115_A1, q115_c1, q115_A2, q115_c2, q115_A3, q115_c3, q115_A4, q115_c4, q115_A5, q115_c5, q115_n1, q115_n2, q115_n3, q115_n4, q115_n5, _, q115_S, q115_1, q115_2, q115_3, q115_4, q115_5, q115_8, q115_9⟩ := openP_ref05Disk (x0 := (toR (keepR (fromR d0) d1.toNat) d0.2.2.2.2.2.1).1) (x1 := ((toR (keepR (fromR d0) d1.toNat) d0.2.2.2.2.2.1).2.1).1) (x2 := ((toR (keepR (fromR d0) d1.toNat) d0.2.2.2.2.2.1).2.1).2.1) (x3 := ((toR (keepR (fromR d0) d1.toNat) d0.2.2.2.2.2.1).2.1).2.2.1) (x4 := ((toR (keepR (fromR d0) d1.toNat) d0.2.2.2.2.2.1).2.1).2.2.2) (x5 := (toR (keepR (fromR d0) d1.toNat) d0.2.2.2.2.2.1).2.2.1) (x6 := (toR (keepR (fromR d0) d1.toNat) d0.2.2.2.2.2.1).2.2.2.1) (x7 := (toR (keepR (fromR d0) d1.toNat) d0.2.2.2.2.2.1).2.2.2.2.1) (x8 := (toR (keepR (fromR d0) d1.toNat) d0.2.2.2.2.2.1).2.2.2.2.2.1) (x9 := (toR (keepR (fromR d0) d1.toNat) d0.2.2.2.2.2.1).2.2.2.2.2.2) ho26
              have q115_r1 := q115_1.rm
              have q115_r2 := q115_2.rm
              have q115_r3 := q115_3.rm
              have q115_r4 := q115_4.rm
              have q115_r5 := q115_5.rm
              simp only [inK] at q115_8
              simp only [inK] at q115_9
              refine VO.inv _ (fun _ h => h.parts (i := 126) rfl q115_S [221, 216, 217, 218, 219, 220]) ?_
              refine VO.store (k := 1) 221 rfl rfl (.inr ⟨tk97, rfl⟩) rfl rfl rfl rfl rfl ?_
              refine VO.clsP 222 [221, 216, 217, 218, 219] rfl (fun hg122 => (mkP_ref05Disk ((toR (keepR (fromR d0) d1.toNat) d0.2.2.2.2.2.1).1) (((toR (keepR (fromR d0) d1.toNat) d0.2.2.2.2.2.1).2.1).1) (((toR (keepR (fromR d0) d1.toNat) d0.2.2.2.2.2.1).2.1).2.1) (((toR (keepR (fromR d0) d1.toNat) d0.2.2.2.2.2.1).2.1).2.2.1) (((toR (keepR (fromR d0) d1.toNat) d0.2.2.2.2.2.1).2.1).2.2.2) [] ((toR (keepR (fromR d0) d1.toNat) d0.2.2.2.2.2.1).2.2.2.1) ((toR (keepR (fromR d0) d1.toNat) d0.2.2.2.2.2.1).2.2.2.2.1) ((toR (keepR (fromR d0) d1.toNat) d0.2.2.2.2.2.1).2.2.2.2.2.1) ((toR (keepR (fromR d0) d1.toNat) d0.2.2.2.2.2.1).2.2.2.2.2.2) (Seps.nilAt 5 hg122) (OwnL.ow (Ow.ownl q115_1 rfl mnil) rfl) (OwnL.ow (Ow.ownl q115_2 rfl mnil) rfl) (OwnL.ow (Ow.ownl q115_3 rfl mnil) rfl) (OwnL.ow (Ow.ownl q115_4 rfl mnil) rfl) (Ow.nil _ _) (by simp only [inK]; (exact fin3_rStart_ok)) (by simp only [inK]; (exact fin3_rStart_ok)))) (fun mc122 ho122 => ?_)
              refine VO.kp [222, 0] [(222, mc122), (0, mout (wm W) (m0))] ?_
              refine VO.k7 0 1 2 6 10 22 43 ?_
              refine VC.rs ?_
              refine VO.mv ?_
              refine VO.y rfl (.nilp rfl) ?_
              refine VO.y rfl (.fa rfl tst99 rfl) ?_
              obtain ⟨q123_E, q123_A1, q123_c1, q123_A2, q123_c2, q123_A3, q123_c3, q123_A4, q123_c4, q123_A5, q123_c5, q123_n1, q123_n2, q123_n3, q123_n4, q123_n5, _, q123_S, q123_1, q123_2, q123_3, q123_4, q123_5, q123_8, q123_9⟩ := openP_ref05Disk (x0 := (toR (keepR (fromR d0) d1.toNat) d0.2.2.2.2.2.1).1) (x1 := ((toR (keepR (fromR d0) d1.toNat) d0.2.2.2.2.2.1).2.1).1) (x2 := ((toR (keepR (fromR d0) d1.toNat) d0.2.2.2.2.2.1).2.1).2.1) (x3 := ((toR (keepR (fromR d0) d1.toNat) d0.2.2.2.2.2.1).2.1).2.2.1) (x4 := ((toR (keepR (fromR d0) d1.toNat) d0.2.2.2.2.2.1).2.1).2.2.2) (x5 := []) (x6 := (toR (keepR (fromR d0) d1.toNat) d0.2.2.2.2.2.1).2.2.2.1) (x7 := (toR (keepR (fromR d0) d1.toNat) d0.2.2.2.2.2.1).2.2.2.2.1) (x8 := (toR (keepR (fromR d0) d1.toNat) d0.2.2.2.2.2.1).2.2.2.2.2.1) (x9 := (toR (keepR (fromR d0) d1.toNat) d0.2.2.2.2.2.1).2.2.2.2.2.2) ho122
              have q123_r1 := q123_1.rm
              have q123_r2 := q123_2.rm
              have q123_r3 := q123_3.rm
              have q123_r4 := q123_4.rm
              have q123_r5 := q123_5.rm
              simp only [inK] at q123_8
              simp only [inK] at q123_9
              refine VO.inv _ (fun _ h => h.parts (i := 222) rfl q123_S [229, 224, 225, 226, 227, 228]) ?_
              refine VO.store (k := 1) 229 rfl rfl (.inr ⟨tk4, rfl⟩) rfl rfl rfl rfl rfl ?_
              refine VO.clsP 230 [229, 224, 225, 226, 227, 228] rfl (fun hg130 => (mkP_ref05Disk ((toR (keepR (fromR d0) d1.toNat) d0.2.2.2.2.2.1).1) (((toR (keepR (fromR d0) d1.toNat) d0.2.2.2.2.2.1).2.1).1) (((toR (keepR (fromR d0) d1.toNat) d0.2.2.2.2.2.1).2.1).2.1) (((toR (keepR (fromR d0) d1.toNat) d0.2.2.2.2.2.1).2.1).2.2.1) (((toR (keepR (fromR d0) d1.toNat) d0.2.2.2.2.2.1).2.1).2.2.2) [] ((toR (keepR (fromR d0) d1.toNat) d0.2.2.2.2.2.1).2.2.2.1) false ((toR (keepR (fromR d0) d1.toNat) d0.2.2.2.2.2.1).2.2.2.2.2.1) ((toR (keepR (fromR d0) d1.toNat) d0.2.2.2.2.2.1).2.2.2.2.2.2) hg130 (OwnL.ow (Ow.ownl q123_1 rfl mnil) rfl) (OwnL.ow (Ow.ownl q123_2 rfl mnil) rfl) (OwnL.ow (Ow.ownl q123_3 rfl mnil) rfl) (OwnL.ow (Ow.ownl q123_4 rfl mnil) rfl) q123_5 (by simp only [inK]; (exact fin3_rStart_ok)) (by simp only [inK]; (exact fin3_rStart_ok)))) (fun mc130 ho130 => ?_)
              refine VO.k7 0 1 2 6 10 22 43 ?_
              refine VC.rs ?_
              refine VO.mv ?_
              refine VO.y rfl (.nilp rfl) ?_
              refine VO.y rfl (.fa rfl tst99 rfl) ?_
              obtain ⟨q131_E, q131_A1, q131_c1, q131_A2, q131_c2, q131_A3, q131_c3, q131_A4, q131_c4, q131_A5, q131_c5, q131_n1, q131_n2, q131_n3, q131_n4, q131_n5, _, q131_S, q131_1, q131_2, q131_3, q131_4, q131_5, q131_8, q131_9⟩ := openP_ref05Disk (x0 := (toR (keepR (fromR d0) d1.toNat) d0.2.2.2.2.2.1).1) (x1 := ((toR (keepR (fromR d0) d1.toNat) d0.2.2.2.2.2.1).2.1).1) (x2 := ((toR (keepR (fromR d0) d1.toNat) d0.2.2.2.2.2.1).2.1).2.1) (x3 := ((toR (keepR (fromR d0) d1.toNat) d0.2.2.2.2.2.1).2.1).2.2.1) (x4 := ((toR (keepR (fromR d0) d1.toNat) d0.2.2.2.2.2.1).2.1).2.2.2) (x5 := []) (x6 := (toR (keepR (fromR d0) d1.toNat) d0.2.2.2.2.2.1).2.2.2.1) (x7 := false) (x8 := (toR (keepR (fromR d0) d1.toNat) d0.2.2.2.2.2.1).2.2.2.2.2.1) (x9 := (toR (keepR (fromR d0) d1.toNat) d0.2.2.2.2.2.1).2.2.2.2.2.2) ho130
              have q131_r1 := q131_1.rm
              have q131_r2 := q131_2.rm
              have q131_r3 := q131_3.rm
              have q131_r4 := q131_4.rm
              have q131_r5 := q131_5.rm
              simp only [inK] at q131_8
              simp only [inK] at q131_9
              refine VO.inv _ (fun _ h => h.parts (i := 230) rfl q131_S [237, 232, 233, 234, 235, 236]) ?_
              refine VO.store (k := 1) 237 rfl rfl (.inr ⟨tk4, rfl⟩) rfl rfl rfl rfl rfl ?_
              refine VO.clsP 238 [237, 232, 233, 234, 235, 236] rfl (fun hg138 => (mkP_ref05Disk ((toR (keepR (fromR d0) d1.toNat) d0.2.2.2.2.2.1).1) (((toR (keepR (fromR d0) d1.toNat) d0.2.2.2.2.2.1).2.1).1) (((toR (keepR (fromR d0) d1.toNat) d0.2.2.2.2.2.1).2.1).2.1) (((toR (keepR (fromR d0) d1.toNat) d0.2.2.2.2.2.1).2.1).2.2.1) (((toR (keepR (fromR d0) d1.toNat) d0.2.2.2.2.2.1).2.1).2.2.2) [] true false ((toR (keepR (fromR d0) d1.toNat) d0.2.2.2.2.2.1).2.2.2.2.2.1) ((toR (keepR (fromR d0) d1.toNat) d0.2.2.2.2.2.1).2.2.2.2.2.2) hg138 (OwnL.ow (Ow.ownl q131_1 rfl mnil) rfl) (OwnL.ow (Ow.ownl q131_2 rfl mnil) rfl) (OwnL.ow (Ow.ownl q131_3 rfl mnil) rfl) (OwnL.ow (Ow.ownl q131_4 rfl mnil) rfl) q131_5 (by simp only [inK]; (exact fin3_rStart_ok)) (by simp only [inK]; (exact fin3_rStart_ok)))) (fun mc138 ho138 => ?_)
              refine VO.k7 0 1 2 6 10 22 43 ?_
              refine VC.rs ?_
              refine VO.as ?_
              refine VO.kp [238, 0] [(238, mc138), (0, mout (wm W) (m0))] ?_
              refine VO.k7 0 1 2 6 10 22 43 ?_
              refine VC.ret ?_
              refine ⟨_, _, res_run (rs := [.tmp 6]) rfl (.tmp rfl .nil), fun W_ hI => out_of (l := [mc138]) hI [238] rfl rfl (mle_refl _) (fun hS_ => ?_)⟩
              dsimp only [packV]
              have hm0_ : (toR (dStart (fromR d0) d1 d2).1 d0.2.2.2.2.2.1 : Dref05Disk) = ((toR (keepR (fromR d0) d1.toNat) d0.2.2.2.2.2.1).1, ((toR (keepR (fromR d0) d1.toNat) d0.2.2.2.2.2.1).2.1), [], true, false, (toR (keepR (fromR d0) d1.toNat) d0.2.2.2.2.2.1).2.2.2.2.2) := by first | rfl | (exact fin0_rStart_ok)
              refine ⟨?_, ?_⟩
              rotate_left
              · rw [hm0_]; exact (Ow.up ho138 (hS_.1 _ (.head _)))
              all_goals (first | rfl | (exact fin1_rStart_ok))
          · -- FFFFF
            refine VO.gN ?_
            refine VO.gN ?_
            refine VO.gN ?_
            refine VO.gN ?_
            refine VO.gN ?_
            refine VO.gN ?_
            refine VO.gN ?_
            refine VO.gN ?_
            refine VO.gN ?_
            refine VO.y rfl (.pF rfl rfl) ?_
            refine VO.clsP 239 [123, 118, 119, 120, 121, 122] rfl (fun hg139 => (show Ow (.ptr Tref05Disk) _ _ (_, (toR (keepR (fromR d0) d1.toNat) d0.2.2.2.2.2.1)) from (mkP_ref05Disk ((toR (keepR (fromR d0) d1.toNat) d0.2.2.2.2.2.1).1) (((toR (keepR (fromR d0) d1.toNat) d0.2.2.2.2.2.1).2.1).1) (((toR (keepR (fromR d0) d1.toNat) d0.2.2.2.2.2.1).2.1).2.1) (((toR (keepR (fromR d0) d1.toNat) d0.2.2.2.2.2.1).2.1).2.2.1) (((toR (keepR (fromR d0) d1.toNat) d0.2.2.2.2.2.1).2.1).2.2.2) ((toR (keepR (fromR d0) d1.toNat) d0.2.2.2.2.2.1).2.2.1) ((toR (keepR (fromR d0) d1.toNat) d0.2.2.2.2.2.1).2.2.2.1) ((toR (keepR (fromR d0) d1.toNat) d0.2.2.2.2.2.1).2.2.2.2.1) ((toR (keepR (fromR d0) d1.toNat) d0.2.2.2.2.2.1).2.2.2.2.2.1) ((toR (keepR (fromR d0) d1.toNat) d0.2.2.2.2.2.1).2.2.2.2.2.2) hg139 (OwnL.ow (Ow.ownl q17_1 rfl mnil) rfl) (OwnL.ow (Ow.ownl q17_2 rfl mnil) rfl) (OwnL.ow (Ow.ownl q17_3 rfl mnil) rfl) (OwnL.ow (Ow.ownl q17_4 rfl mnil) rfl) q17_5 (by simp only [inK]; (exact fin3_rStart_ok)) (by simp only [inK]; (exact fin3_rStart_ok))))) (fun mc139 ho139 => ?_)
            refine VO.k7 0 1 2 6 10 22 43 ?_
            refine VC.condF rfl ?_
            refine VC.skip ?_
            refine outN ?_
            refine VC.rs ?_
            refine VO.mv ?_
            refine VO.y rfl (.nilp rfl) ?_
            refine VO.y rfl (.fa rfl tst99 rfl) ?_
            obtain ⟨q140_E, q140_A1, q140_c1, q140_A2, q140_c2, q140_A3, q140_c3, q140_A4, q140_c4, q140_A5, q140_c5, q140_n1, q140_n2, q140_n3, q140_n4, q140_n5, _, q140_S, q140_1, q140_2, q140_3, q140_4, q140_5, q140_8, q140_9⟩ := openP_ref05Disk (x0 := (toR (keepR (fromR d0) d1.toNat) d0.2.2.2.2.2.1).1) (x1 := ((toR (keepR (fromR d0) d1.toNat) d0.2.2.2.2.2.1).2.1).1) (x2 := ((toR (keepR (fromR d0) d1.toNat) d0.2.2.2.2.2.1).2.1).2.1) (x3 := ((toR (keepR (fromR d0) d1.toNat) d0.2.2.2.2.2.1).2.1).2.2.1) (x4 := ((toR (keepR (fromR d0) d1.toNat) d0.2.2.2.2.2.1).2.1).2.2.2) (x5 := (toR (keepR (fromR d0) d1.toNat) d0.2.2.2.2.2.1).2.2.1) (x6 := (toR (keepR (fromR d0) d1.toNat) d0.2.2.2.2.2.1).2.2.2.1) (x7 := (toR (keepR (fromR d0) d1.toNat) d0.2.2.2.2.2.1).2.2.2.2.1) (x8 := (toR (keepR (fromR d0) d1.toNat) d0.2.2.2.2.2.1).2.2.2.2.2.1) (x9 := (toR (keepR (fromR d0) d1.toNat) d0.2.2.2.2.2.1).2.2.2.2.2.2) ho139
            have q140_r1 := q140_1.rm
            have q140_r2 := q140_2.rm
            have q140_r3 := q140_3.rm
            have q140_r4 := q140_4.rm
            have q140_r5 := q140_5.rm
            simp only [inK] at q140_8
            simp only [inK] at q140_9
            refine VO.inv _ (fun _ h => h.parts (i := 239) rfl q140_S [246, 241, 242, 243, 244, 245]) ?_
            refine VO.store (k := 1) 246 rfl rfl (.inr ⟨tk97, rfl⟩) rfl rfl rfl rfl rfl ?_
            refine VO.clsP 247 [246, 241, 242, 243, 244] rfl (fun hg147 => (mkP_ref05Disk ((toR (keepR (fromR d0) d1.toNat) d0.2.2.2.2.2.1).1) (((toR (keepR (fromR d0) d1.toNat) d0.2.2.2.2.2.1).2.1).1) (((toR (keepR (fromR d0) d1.toNat) d0.2.2.2.2.2.1).2.1).2.1) (((toR (keepR (fromR d0) d1.toNat) d0.2.2.2.2.2.1).2.1).2.2.1) (((toR (keepR (fromR d0) d1.toNat) d0.2.2.2.2.2.1).2.1).2.2.2) [] ((toR (keepR (fromR d0) d1.toNat) d0.2.2.2.2.2.1).2.2.2.1) ((toR (keepR (fromR d0) d1.toNat) d0.2.2.2.2.2.1).2.2.2.2.1) ((toR (keepR (fromR d0) d1.toNat) d0.2.2.2.2.2.1).2.2.2.2.2.1) ((toR (keepR (fromR d0) d1.toNat) d0.2.2.2.2.2.1).2.2.2.2.2.2) (Seps.nilAt 5 hg147) (OwnL.ow (Ow.ownl q140_1 rfl mnil) rfl) (OwnL.ow (Ow.ownl q140_2 rfl mnil) rfl) (OwnL.ow (Ow.ownl q140_3 rfl mnil) rfl) (OwnL.ow (Ow.ownl q140_4 rfl mnil) rfl) (Ow.nil _ _) (by simp only [inK]; (exact fin3_rStart_ok)) (by simp only [inK]; (exact fin3_rStart_ok)))) (fun mc147 ho147 => ?_)
            refine VO.kp [247, 0] [(247, mc147), (0, mout (wm W) (m0))] ?_
            refine VO.k7 0 1 2 6 10 22 43 ?_
            refine VC.rs ?_
            refine VO.mv ?_
            refine VO.y rfl (.nilp rfl) ?_
            refine VO.y rfl (.fa rfl tst99 rfl) ?_
            obtain ⟨q148_E, q148_A1, q148_c1, q148_A2, q148_c2, q148_A3, q148_c3, q148_A4, q148_c4, q148_A5, q148_c5, q148_n1, q148_n2, q148_n3, q148_n4, q148_n5, _, q148_S, q148_1, q148_2, q148_3, q148_4, q148_5, q148_8, q148_9⟩ := openP_ref05Disk (x0 := (toR (keepR (fromR d0) d1.toNat) d0.2.2.2.2.2.1).1) (x1 := ((toR (keepR (fromR d0) d1.toNat) d0.2.2.2.2.2.1).2.1).1) (x2 := ((toR (keepR (fromR d0) d1.toNat) d0.2.2.2.2.2.1).2.1).2.1) (x3 := ((toR (keepR (fromR d0) d1.toNat) d0.2.2.2.2.2.1).2.1).2.2.1) (x4 := ((toR (keepR (fromR d0) d1.toNat) d0.2.2.2.2.2.1).2.1).2.2.2) (x5 := []) (x6 := (toR (keepR (fromR d0) d1.toNat) d0.2.2.2.2.2.1).2.2.2.1) (x7 := (toR (keepR (fromR d0) d1.toNat) d0.2.2.2.2.2.1).2.2.2.2.1) (x8 := (toR (keepR (fromR d0) d1.toNat) d0.2.2.2.2.2.1).2.2.2.2.2.1) (x9 := (toR (keepR (fromR d0) d1.toNat) d0.2.2.2.2.2.1).2.2.2.2.2.2) ho147
            have q148_r1 := q148_1.rm
            have q148_r2 := q148_2.rm
            have q148_r3 := q148_3.rm
            have q148_r4 := q148_4.rm
            have q148_r5 := q148_5.rm
            simp only [inK] at q148_8
            simp only [inK] at q148_9
            refine VO.inv _ (fun _ h => h.parts (i := 247) rfl q148_S [254, 249, 250, 251, 252, 253]) ?_
            refine VO.store (k := 1) 254 rfl rfl (.inr ⟨tk4, rfl⟩) rfl rfl rfl rfl rfl ?_
            refine VO.clsP 255 [254, 249, 250, 251, 252, 253] rfl (fun hg155 => (mkP_ref05Disk ((toR (keepR (fromR d0) d1.toNat) d0.2.2.2.2.2.1).1) (((toR (keepR (fromR d0) d1.toNat) d0.2.2.2.2.2.1).2.1).1) (((toR (keepR (fromR d0) d1.toNat) d0.2.2.2.2.2.1).2.1).2.1) (((toR (keepR (fromR d0) d1.toNat) d0.2.2.2.2.2.1).2.1).2.2.1) (((toR (keepR (fromR d0) d1.toNat) d0.2.2.2.2.2.1).2.1).2.2.2) [] ((toR (keepR (fromR d0) d1.toNat) d0.2.2.2.2.2.1).2.2.2.1) false ((toR (keepR (fromR d0) d1.toNat) d0.2.2.2.2.2.1).2.2.2.2.2.1) ((toR (keepR (fromR d0) d1.toNat) d0.2.2.2.2.2.1).2.2.2.2.2.2) hg155 (OwnL.ow (Ow.ownl q148_1 rfl mnil) rfl) (OwnL.ow (Ow.ownl q148_2 rfl mnil) rfl) (OwnL.ow (Ow.ownl q148_3 rfl mnil) rfl) (OwnL.ow (Ow.ownl q148_4 rfl mnil) rfl) q148_5 (by simp only [inK]; (exact fin3_rStart_ok)) (by simp only [inK]; (exact fin3_rStart_ok)))) (fun mc155 ho155 => ?_)
            refine VO.k7 0 1 2 6 10 22 43 ?_
            refine VC.rs ?_
            refine VO.mv ?_
            refine VO.y rfl (.nilp rfl) ?_
            refine VO.y rfl (.fa rfl tst99 rfl) ?_
            obtain ⟨q156_E, q156_A1, q156_c1, q156_A2, q156_c2, q156_A3, q156_c3, q156_A4, q156_c4, q156_A5, q156_c5, q156_n1, q156_n2, q156_n3, q156_n4, q156_n5, _, q156_S, q156_1, q156_2, q156_3, q156_4, q156_5, q156_8, q156_9⟩ := openP_ref05Disk (x0 := (toR (keepR (fromR d0) d1.toNat) d0.2.2.2.2.2.1).1) (x1 := ((toR (keepR (fromR d0) d1.toNat) d0.2.2.2.2.2.1).2.1).1) (x2 := ((toR (keepR (fromR d0) d1.toNat) d0.2.2.2.2.2.1).2.1).2.1) (x3 := ((toR (keepR (fromR d0) d1.toNat) d0.2.2.2.2.2.1).2.1).2.2.1) (x4 := ((toR (keepR (fromR d0) d1.toNat) d0.2.2.2.2.2.1).2.1).2.2.2) (x5 := []) (x6 := (toR (keepR (fromR d0) d1.toNat) d0.2.2.2.2.2.1).2.2.2.1) (x7 := false) (x8 := (toR (keepR (fromR d0) d1.toNat) d0.2.2.2.2.2.1).2.2.2.2.2.1) (x9 := (toR (keepR (fromR d0) d1.toNat) d0.2.2.2.2.2.1).2.2.2.2.2.2) ho155
            have q156_r1 := q156_1.rm
            have q156_r2 := q156_2.rm
            have q156_r3 := q156_3.rm
            have q156_r4 := q156_4.rm
            have q156_r5 := q156_5.rm
            simp only [inK] at q156_8
            simp only [inK] at q156_9
            refine VO.inv _ (fun _ h => h.parts (i := 255) rfl q156_S [262, 257, 258, 259, 260, 261]) ?_
            refine VO.store (k := 1) 262 rfl rfl (.inr ⟨tk4, rfl⟩) rfl rfl rfl rfl rfl ?_
            refine VO.clsP 263 [262, 257, 258, 259, 260, 261] rfl (fun hg163 => (mkP_ref05Disk ((toR (keepR (fromR d0) d1.toNat) d0.2.2.2.2.2.1).1) (((toR (keepR (fromR d0) d1.toNat) d0.2.2.2.2.2.1).2.1).1) (((toR (keepR (fromR d0) d1.toNat) d0.2.2.2.2.2.1).2.1).2.1) (((toR (keepR (fromR d0) d1.toNat) d0.2.2.2.2.2.1).2.1).2.2.1) (((toR (keepR (fromR d0) d1.toNat) d0.2.2.2.2.2.1).2.1).2.2.2) [] true false ((toR (keepR (fromR d0) d1.toNat) d0.2.2.2.2.2.1).2.2.2.2.2.1) ((toR (keepR (fromR d0) d1.toNat) d0.2.2.2.2.2.1).2.2.2.2.2.2) hg163 (OwnL.ow (Ow.ownl q156_1 rfl mnil) rfl) (OwnL.ow (Ow.ownl q156_2 rfl mnil) rfl) (OwnL.ow (Ow.ownl q156_3 rfl mnil) rfl) (OwnL.ow (Ow.ownl q156_4 rfl mnil) rfl) q156_5 (by simp only [inK]; (exact fin3_rStart_ok)) (by simp only [inK]; (exact fin3_rStart_ok)))) (fun mc163 ho163 => ?_)
            refine VO.k7 0 1 2 6 10 22 43 ?_
            refine VC.rs ?_
            refine VO.as ?_
            refine VO.kp [263, 0] [(263, mc163), (0, mout (wm W) (m0))] ?_
            refine VO.k7 0 1 2 6 10 22 43 ?_
            refine VC.ret ?_
            refine ⟨_, _, res_run (rs := [.tmp 6]) rfl (.tmp rfl .nil), fun W_ hI => out_of (l := [mc163]) hI [263] rfl rfl (mle_refl _) (fun hS_ => ?_)⟩
            dsimp only [packV]
            have hm0_ : (toR (dStart (fromR d0) d1 d2).1 d0.2.2.2.2.2.1 : Dref05Disk) = ((toR (keepR (fromR d0) d1.toNat) d0.2.2.2.2.2.1).1, ((toR (keepR (fromR d0) d1.toNat) d0.2.2.2.2.2.1).2.1), [], true, false, (toR (keepR (fromR d0) d1.toNat) d0.2.2.2.2.2.1).2.2.2.2.2) := by first | rfl | (exact fin0_rStart_ok)
            refine ⟨?_, ?_⟩
            rotate_left
            · rw [hm0_]; exact (Ow.up ho163 (hS_.1 _ (.head _)))
            all_goals (first | rfl | (exact fin1_rStart_ok))
end
section
set_option linter.unusedVariables false
abbrev TSection : Ty := .pair (.int .i64) (.pair (.int .i64) (.sl TCommit))
abbrev DSection := Int × Int × (List DCommit)
instance decSection : DecidableEq DSection := (@instDecidableEqProd _ _ inferInstance (@instDecidableEqProd _ _ inferInstance inferInstance))
theorem open_Section {m : Mem} {cs : List Value} {x0 : Int} {x1 : Int} {x2 : List DCommit} (h : Rd TSection m cs (x0, x1, x2)) : ∃ (A2 : Option Addr), ∃ (c2 : Nat), cs = [(.int .i64 x0 : Value), .int .i64 x1, .slice A2 x2.length c2] ∧ inK .i64 x0 ∧ inK .i64 x1 ∧ Rd (.sl TCommit) m [.slice A2 x2.length c2] x2 := by
  obtain ⟨p1, q1, rfl, u1, w1⟩ := Rd.pair h
  obtain ⟨rfl, z2⟩ := (show _ = _ ∧ _ from u1)
  obtain ⟨p3, q3, rfl, u3, w3⟩ := Rd.pair w1
  obtain ⟨rfl, z4⟩ := (show _ = _ ∧ _ from u3)
  have z5 := w3
  obtain ⟨A5, c5, rfl, _⟩ := Rd.slice1 w3
  exact ⟨A5, c5, rfl, z2, z4, z5⟩
theorem mk_Section {m : Mem} (x0 : Int) (x1 : Int) (x2 : List DCommit) (h0 : inK .i64 x0) (h1 : inK .i64 x1) {v2 : Value} (h2 : Rd (.sl TCommit) m [v2] x2) : Rd TSection m [.int .i64 x0, .int .i64 x1, v2] (x0, x1, x2) := (Rd.mkPair (c1 := [_]) (show Rd (.int .i64) m [_] _ from ⟨rfl, h0⟩) (Rd.mkPair (c1 := [_]) (show Rd (.int .i64) m [_] _ from ⟨rfl, h1⟩) h2))
theorem openO_Section {m : Mem} {cs : List Value} {x0 : Int} {x1 : Int} {x2 : List DCommit} (h : Ow TSection m cs (x0, x1, x2)) : ∃ (A2 : Option Addr), ∃ (c2 : Nat), ∃ (n2 : Mem), cs = [(.int .i64 x0 : Value), .int .i64 x1, .slice A2 x2.length c2] ∧ Seps m [n2] ∧ inK .i64 x0 ∧ inK .i64 x1 ∧ Ow (.sl TCommit) n2 [.slice A2 x2.length c2] x2 := by
  obtain ⟨p1, q1, ma1, mb1, rfl, dj1, la1, lb1, u1, w1⟩ := Ow.pair h
  obtain ⟨rfl, z2⟩ := (show _ = _ ∧ _ from u1)
  obtain ⟨p3, q3, ma3, mb3, rfl, dj3, la3, lb3, u3, w3⟩ := Ow.pair w1
  obtain ⟨rfl, z4⟩ := (show _ = _ ∧ _ from u3)
  have z5 := w3
  obtain ⟨A5, c5, rfl, _⟩ := Ow.slice1 w3
  exact ⟨A5, c5, _, rfl, (Seps.app dj1 la1 lb1 (Seps.nil _) (Seps.app dj3 la3 lb3 (Seps.nil _) (Seps.one (mle_refl _)))), z2, z4, z5⟩
theorem mkO_Section {m : Mem} {n2 : Mem} (x0 : Int) (x1 : Int) (x2 : List DCommit) (hS : Seps m [n2]) (h0 : inK .i64 x0) (h1 : inK .i64 x1) {v2 : Value} (h2 : Ow (.sl TCommit) n2 [v2] x2) : Ow TSection m [.int .i64 x0, .int .i64 x1, v2] (x0, x1, x2) := by
  obtain ⟨e1, la1, lb1, Sa1, Sb1⟩ := Seps.cut (l := []) (r := [n2]) hS
  obtain ⟨e2, la2, lb2, Sa2, Sb2⟩ := Seps.cut (l := []) (r := [n2]) Sb1
  exact (Ow.mkPair (c1 := [_]) e1 la1 lb1 (show Ow (.int .i64) _ [_] _ from ⟨rfl, h0⟩) (Ow.mkPair (c1 := [_]) e2 la2 lb2 (show Ow (.int .i64) _ [_] _ from ⟨rfl, h1⟩) (h2.up (Sb2.1 _ (.head _)))))
end
section
set_option linter.unusedVariables false
def zS : DSection := (0, 0, [])
def sectCheck (s : DSection) : Int := if s.1 < 1 ∨ 1048576 < s.1 ∨ s.2.1 < 0 ∨ s.2.2.length = 0 then 2 else if ¬ (cFollows 1 s.2.1 s.2.2).1 = 0 then (cFollows 1 s.2.1 s.2.2).1 else if s.1 ≤ lastOr 0 s.2.2 then 15 else 0
section
variable {s : DSection} {k : Nat} {x : DCommit}
theorem sect_bad1 (h : s.1 < 1 ∨ 1048576 < s.1 ∨ s.2.1 < 0 ∨ (s.2.2.length : Int) = 0) : sectCheck s = 2 := if_pos (by omega)
theorem sect_bad2 (h1 : ¬ s.1 < 1) (h2 : ¬ 1048576 < s.1) (h3 : ¬ s.2.1 < 0) (h4 : ¬ (s.2.2.length : Int) = 0) (h : ¬ (cFollows 1 s.2.1 s.2.2).1 = 0) : sectCheck s = (cFollows 1 s.2.1 s.2.2).1 := by
  unfold sectCheck; rw [if_neg (by omega), if_pos h]
theorem sect_bad3 (h1 : ¬ s.1 < 1) (h2 : ¬ 1048576 < s.1) (h3 : ¬ s.2.1 < 0) (h4 : ¬ (s.2.2.length : Int) = 0) (h : ¬ ¬ (cFollows 1 s.2.1 s.2.2).1 = 0) (hx : s.2.2[k]? = some x) (h0 : k + 1 = s.2.2.length) (h5 : s.1 ≤ x.1) : sectCheck s = 15 := by
  unfold sectCheck; rw [if_neg (by omega), if_neg h, lastOr_eq hx h0, if_pos h5]
theorem sect_good (h1 : ¬ s.1 < 1) (h2 : ¬ 1048576 < s.1) (h3 : ¬ s.2.1 < 0) (h4 : ¬ (s.2.2.length : Int) = 0) (h : ¬ ¬ (cFollows 1 s.2.1 s.2.2).1 = 0) (hx : s.2.2[k]? = some x) (h0 : k + 1 = s.2.2.length) (h5 : ¬ s.1 ≤ x.1) : sectCheck s = 0 := by
  unfold sectCheck; rw [if_neg (by omega), if_neg h, lastOr_eq hx h0, if_neg h5]
theorem sect_ok (h : sectCheck s = 0) : 1 ≤ s.1 ∧ s.1 ≤ 1048576 ∧ 0 ≤ s.2.1 ∧ 1 ≤ s.2.2.length ∧ (cFollows 1 s.2.1 s.2.2).1 = 0 ∧ lastOr 0 s.2.2 < s.1 := by
  unfold sectCheck at h
  split at h
  · cases h
  · split at h
    · exact absurd h ‹_›
    · split at h
      · cases h
      · rename_i h1 h2 h3
        exact ⟨by omega, by omega, by omega, by omega, Decidable.not_not.1 h2, by omega⟩
theorem sect_commits (h : sectCheck s = 0) : ∀ c ∈ s.2.2, cCheck c = 0 := cFollowsAt_ok (sect_ok h).2.2.2.2.1
theorem sect_fork (h : sectCheck s = 0) : s.2.1 + s.2.2.length ≤ 1048576 := by
  obtain ⟨h1, h2, h3, h4, h5, h6⟩ := sect_ok h
  obtain ⟨x, hx⟩ : ∃ x, s.2.2[s.2.2.length - 1]? = some x := ⟨_, List.getElem?_eq_getElem (by omega)⟩
  have := follows_get h5 hx
  have h7 := cCheck_ok this.2.2.1
  omega
theorem sectCheck_range (s : DSection) : 0 ≤ sectCheck s ∧ sectCheck s ≤ 15 := by
  unfold sectCheck
  split
  · omega
  · split
    · exact cFollowsAt_range _ _ _ _
    · split <;> omega
end
def sectHead (s : DSection) : Bytes := venc s.1.toNat ++ (venc s.2.1.toNat ++ venc s.2.2.length)
def sectEnc (s : DSection) : Bytes := fEnc (sectHead s) ++ cFrames s.2.2
def sectEncode (s : DSection) : Bytes × Int := if sectCheck s = 0 then (sectEnc s, 0) else ([], sectCheck s)
theorem sectEncode_bad {s : DSection} (h : ¬ sectCheck s = 0) : sectEncode s = ([], sectCheck s) := if_neg h
theorem sectEncode_good {s : DSection} (h : ¬ ¬ sectCheck s = 0) : sectEncode s = (sectEnc s, 0) := if_pos (Decidable.not_not.1 h)
theorem sectHead_len {s : DSection} (h : sectCheck s = 0) : (sectHead s).length ≤ 30 := by
  have h1 := sect_ok h
  have h2 := sect_fork h
  have v1 := venc_len (x := s.1.toNat) (by omega)
  have v2 := venc_len (x := s.2.1.toNat) (by omega)
  have v3 := venc_len (x := s.2.2.length) (by omega)
  simp only [sectHead, List.length_append]; omega
theorem sectEnc_len {s : DSection} (h : sectCheck s = 0) : (sectEnc s).length ≤ 40 + 710 * s.2.2.length ∧ s.2.2.length ≤ 1048576 ∧ 1 ≤ (sectEnc s).length := by
  have h1 := sectHead_len h
  have h2 := cFrames_len (sect_commits h)
  have h3 := fEnc_len (r := sectHead s) (by omega)
  have h4 := sect_fork h
  have h5 := sect_ok h
  have h6 := fEnc_pos (sectHead s)
  simp only [sectEnc, List.length_append]; omega
theorem sectEncode_len (s : DSection) : (sectEncode s).1.length ≤ 800000000 ∧ (sectEncode s).1.length ≤ 40 + 710 * s.2.2.length := by
  unfold sectEncode
  split
  · have := sectEnc_len ‹_›; dsimp only; omega
  · simp
def hB1 (B : Bytes) : Bytes := B.drop (sN B 1048576)
def hB2 (B : Bytes) : Bytes := (hB1 B).drop (sN (hB1 B) 1048576)
def hB3 (B : Bytes) : Bytes := (hB2 B).drop (sN (hB2 B) 1048576)
def headS (B : Bytes) : DSection × Int × Bool := if sE B 1048576 = 0 ∧ sE (hB1 B) 1048576 = 0 ∧ sE (hB2 B) 1048576 = 0 then (((sX B 1048576 : Int), (sX (hB1 B) 1048576 : Int), []), (sX (hB2 B) 1048576 : Int), decide (((hB3 B).length : Int) = 0)) else (zS, 0, false)
theorem headS_no1 {B : Bytes} (h : ¬ sE B 1048576 = 0) : headS B = (zS, 0, false) := if_neg fun q => h q.1
theorem headS_no2 {B : Bytes} (h : ¬ sE (hB1 B) 1048576 = 0) : headS B = (zS, 0, false) := if_neg fun q => h q.2.1
theorem headS_no3 {B : Bytes} (h : ¬ sE (hB2 B) 1048576 = 0) : headS B = (zS, 0, false) := if_neg fun q => h q.2.2
theorem headS_yes {B : Bytes} (h : ¬ ¬ sE B 1048576 = 0) (h1 : ¬ ¬ sE (hB1 B) 1048576 = 0) (h2 : ¬ ¬ sE (hB2 B) 1048576 = 0) : headS B = (((sX B 1048576 : Int), (sX (hB1 B) 1048576 : Int), []), (sX (hB2 B) 1048576 : Int), decide (((hB3 B).length : Int) = 0)) :=
  if_pos ⟨Decidable.not_not.1 h, Decidable.not_not.1 h1, Decidable.not_not.1 h2⟩
theorem headS_x2 {B : Bytes} (h : ¬ sE (B.drop (sN B 1048576)) 1048576 = 0) : headS B = (zS, 0, false) := headS_no2 h
theorem headS_x3 {B : Bytes} (h : ¬ sE ((B.drop (sN B 1048576)).drop (sN (B.drop (sN B 1048576)) 1048576)) 1048576 = 0) : headS B = (zS, 0, false) := headS_no3 h
theorem headS_x4 {B : Bytes} (h : ¬ ¬ sE B 1048576 = 0) (h1 : ¬ ¬ sE (B.drop (sN B 1048576)) 1048576 = 0) (h2 : ¬ ¬ sE ((B.drop (sN B 1048576)).drop (sN (B.drop (sN B 1048576)) 1048576)) 1048576 = 0) :
    headS B = (((sX B 1048576 : Int), (sX (B.drop (sN B 1048576)) 1048576 : Int), []), (sX ((B.drop (sN B 1048576)).drop (sN (B.drop (sN B 1048576)) 1048576)) 1048576 : Int), decide (((((B.drop (sN B 1048576)).drop (sN (B.drop (sN B 1048576)) 1048576)).drop (sN ((B.drop (sN B 1048576)).drop (sN (B.drop (sN B 1048576)) 1048576)) 1048576)).length : Int) = 0)) := headS_yes h h1 h2
theorem headS_range (B : Bytes) : 0 ≤ (headS B).2.1 ∧ (headS B).2.1 ≤ 1048576 ∧ 0 ≤ (headS B).1.1 ∧ (headS B).1.1 ≤ 1048576 ∧ 0 ≤ (headS B).1.2.1 ∧ (headS B).1.2.1 ≤ 1048576 ∧ (headS B).1.2.2 = [] := by
  have h1 := (s_bounds B 1048576 (by omega)).2.1 (by omega)
  have h2 := (s_bounds (hB1 B) 1048576 (by omega)).2.1 (by omega)
  have h3 := (s_bounds (hB2 B) 1048576 (by omega)).2.1 (by omega)
  unfold headS
  split
  · dsimp only; exact ⟨by omega, by omega, by omega, by omega, by omega, by omega, rfl⟩
  · exact ⟨by decide, by decide, by decide, by decide, by decide, by decide, rfl⟩
abbrev hR1 (B : Bytes) : Int × RS := rNum B 1048576 (0, false)
abbrev hR2 (B : Bytes) : Int × RS := rNum B 1048576 (hR1 B).2
abbrev hR3 (B : Bytes) : Int × RS := rNum B 1048576 (hR2 B).2
theorem fol_ne {e n : Int} {l : List DCommit} (h : ¬ ((cFollows e n l).1 = 0 ∧ (cFollows e n l).2 = 0)) : ¬ (cFollows e n l).1 = 0 := fun q => h (none_iff.2 q)
theorem fol_eq {e n : Int} {l : List DCommit} (h : ¬ ¬ ((cFollows e n l).1 = 0 ∧ (cFollows e n l).2 = 0)) : ¬ ¬ (cFollows e n l).1 = 0 := fun q => h fun r => q r.1
def comGo : Nat → Bytes → List DCommit → Int → Option (List DCommit × Int)
  | 0, _, acc, a => some (acc, a)
  | n + 1, b, acc, a => if ¬ (fRead (b.drop a.toNat)).2.2 = 0 then none else if ¬ (cDecode (fRead (b.drop a.toNat)).1).2 = 0 then none else comGo n b (acc ++ [(cDecode (fRead (b.drop a.toNat)).1).1]) (a + (fRead (b.drop a.toNat)).2.1)
def secRead (b : Bytes) : DSection × Int × Bool :=
  if ¬ (fRead b).2.2 = 0 then (zS, 0, false) else if (headS (fRead b).1).2.2 = false then (zS, 0, false) else
    match comGo (headS (fRead b).1).2.1.toNat b [] (fRead b).2.1 with
    | none => (zS, 0, false)
    | some (cs, a) => (((headS (fRead b).1).1.1, (headS (fRead b).1).1.2.1, cs), a, decide (sectCheck ((headS (fRead b).1).1.1, (headS (fRead b).1).1.2.1, cs) = 0))
section
variable {b : Bytes} {n : Nat} {acc : List DCommit} {a : Int} {p : Option (List DCommit × Int)}
theorem com_no1 (hp : p = comGo n b acc a) (h : 0 < n) (h1 : ¬ (fRead (b.drop a.toNat)).2.2 = 0) : p = none := by
  rw [hp]; obtain ⟨m, rfl⟩ : ∃ m, n = m + 1 := ⟨n - 1, by omega⟩
  exact if_pos h1
theorem com_no2 (hp : p = comGo n b acc a) (h : 0 < n) (h1 : ¬ ¬ (fRead (b.drop a.toNat)).2.2 = 0) (h2 : ¬ (cDecode (fRead (b.drop a.toNat)).1).2 = 0) : p = none := by
  rw [hp]; obtain ⟨m, rfl⟩ : ∃ m, n = m + 1 := ⟨n - 1, by omega⟩
  rw [comGo, if_neg h1, if_pos h2]
theorem com_next (hp : p = comGo n b acc a) (h : 0 < n) (h1 : ¬ ¬ (fRead (b.drop a.toNat)).2.2 = 0) (h2 : ¬ ¬ (cDecode (fRead (b.drop a.toNat)).1).2 = 0) : p = comGo (n - 1) b (acc ++ [(cDecode (fRead (b.drop a.toNat)).1).1]) (a + (fRead (b.drop a.toNat)).2.1) := by
  rw [hp]; obtain ⟨m, rfl⟩ : ∃ m, n = m + 1 := ⟨n - 1, by omega⟩
  rw [comGo, if_neg h1, if_neg h2]; rfl
theorem com_end (hp : p = comGo n b acc a) (h : n = 0) : p = some (acc, a) := by subst h; exact hp
theorem com_read (b : Bytes) (a : Int) (h : 0 ≤ a) (h2 : a ≤ b.length) : 0 ≤ (fRead (b.drop a.toNat)).2.1 ∧ a + (fRead (b.drop a.toNat)).2.1 ≤ b.length := by
  have := fRead_bounds (b.drop a.toNat)
  simp only [List.length_drop] at this
  omega
theorem comGo_bounds : ∀ {n : Nat} {acc : List DCommit} {a : Int} {cs : List DCommit} {e : Int}, 0 ≤ a → a ≤ b.length → comGo n b acc a = some (cs, e) → a ≤ e ∧ e ≤ b.length ∧ cs.length = acc.length + n ∧ ((∀ c ∈ acc, cCheck c = 0) → ∀ c ∈ cs, cCheck c = 0)
  | 0, acc, a, cs, e, h, h2, hp => by cases hp; exact ⟨Int.le_refl _, h2, rfl, fun h => h⟩
  | n + 1, acc, a, cs, e, h, h2, hp => by
    have hb := com_read b a h h2
    unfold comGo at hp
    split at hp
    · cases hp
    · split at hp
      · cases hp
      · rename_i h3 h4
        obtain ⟨k1, k2, k3, k4⟩ := comGo_bounds (by omega) hb.2 hp
        simp only [List.length_append, List.length_cons, List.length_nil] at k3
        refine ⟨by omega, k2, by omega, fun hc => k4 fun c hc2 => ?_⟩
        rcases List.mem_append.1 hc2 with q | q
        · exact hc c q
        · simp only [List.mem_cons, List.not_mem_nil, or_false] at q; subst q
          exact (cDecode_back (Decidable.not_not.1 h4)).1
end
theorem sec_no1 {b : Bytes} (h : ¬ (fRead b).2.2 = 0) : secRead b = (zS, 0, false) := if_pos h
theorem sec_no2 {b : Bytes} (h : (headS (fRead b).1).2.2 = false) : secRead b = (zS, 0, false) := by
  unfold secRead
  by_cases h0 : (fRead b).2.2 = 0
  · rw [if_neg (by simpa using h0), if_pos h]
  · rw [if_pos h0]
theorem sec_no3 {b : Bytes} (h : ¬ ¬ (fRead b).2.2 = 0) (h2 : ¬ (headS (fRead b).1).2.2 = false) (hc : comGo (headS (fRead b).1).2.1.toNat b [] (fRead b).2.1 = none) : secRead b = (zS, 0, false) := by
  unfold secRead; rw [if_neg h, if_neg h2, hc]
theorem sec_yes {b : Bytes} {cs : List DCommit} {a : Int} (h : ¬ ¬ (fRead b).2.2 = 0) (h2 : ¬ (headS (fRead b).1).2.2 = false) (hc : comGo (headS (fRead b).1).2.1.toNat b [] (fRead b).2.1 = some (cs, a)) :
    secRead b = (((headS (fRead b).1).1.1, (headS (fRead b).1).1.2.1, cs), a, decide (sectCheck ((headS (fRead b).1).1.1, (headS (fRead b).1).1.2.1, cs) = 0)) := by
  unfold secRead; rw [if_neg h, if_neg h2, hc]
theorem secRead_bounds (b : Bytes) : 0 ≤ (secRead b).2.1 ∧ (secRead b).2.1 ≤ b.length ∧ ((secRead b).2.2 = true → 1 ≤ (secRead b).2.1 ∧ sectCheck (secRead b).1 = 0) ∧ 0 ≤ (secRead b).1.1 ∧ (secRead b).1.1 ≤ 1048576 ∧ (∀ c ∈ (secRead b).1.2.2, c.2.2.length ≤ 8) ∧ (secRead b).1.2.2.length ≤ 1048576 := by
  have hz : 0 ≤ (zS, (0 : Int), false).2.1 ∧ (zS, (0 : Int), false).2.1 ≤ b.length ∧ ((zS, (0 : Int), false).2.2 = true → 1 ≤ (zS, (0 : Int), false).2.1 ∧ sectCheck (zS, (0 : Int), false).1 = 0) ∧ 0 ≤ (zS, (0 : Int), false).1.1 ∧ (zS, (0 : Int), false).1.1 ≤ 1048576 ∧ (∀ c ∈ (zS, (0 : Int), false).1.2.2, c.2.2.length ≤ 8) ∧ (zS, (0 : Int), false).1.2.2.length ≤ 1048576 :=
    ⟨Int.le_refl _, by simp, (fun h => by cases h), Int.le_refl _, by decide, (fun c h => by cases h), by decide⟩
  by_cases h : (fRead b).2.2 = 0
  · by_cases h2 : (headS (fRead b).1).2.2 = false
    · rw [sec_no2 h2]; exact hz
    · cases hc : comGo (headS (fRead b).1).2.1.toNat b [] (fRead b).2.1 with
      | none => rw [sec_no3 (by simpa using h) h2 hc]; exact hz
      | some p =>
        obtain ⟨cs, a⟩ := p
        have hf := fRead_bounds b
        have hh := headS_range (fRead b).1
        obtain ⟨k1, k2, k3, k4⟩ := comGo_bounds hf.1 hf.2.1 hc
        rw [sec_yes (by simpa using h) h2 hc]
        have := hf.2.2.2.2.1 h
        simp only [List.length_nil] at k3
        refine ⟨by dsimp only; omega, k2, fun q => ⟨by dsimp only; omega, of_decide_eq_true q⟩, hh.2.2.1, hh.2.2.2.1, fun c hc => ?_, by dsimp only; omega⟩
        exact batchCheck_ok (cCheck_ok (k4 (fun _ h => by cases h) c hc)).2.2.2.2
  · rw [sec_no1 h]; exact hz
theorem headS_there {s : DSection} (h : sectCheck s = 0) : headS (sectHead s) = ((s.1, s.2.1, []), (s.2.2.length : Int), true) := by
  have h1 := sect_ok h
  have h2 := sect_fork h
  obtain ⟨a1, a2, a3⟩ := s_there (x := s.1.toNat) (m := 1048576) (by omega) (by omega) (venc s.2.1.toNat ++ venc s.2.2.length)
  obtain ⟨b1, b2, b3⟩ := s_there (x := s.2.1.toNat) (m := 1048576) (by omega) (by omega) (venc s.2.2.length)
  obtain ⟨c1, c2, c3⟩ := s_there (x := s.2.2.length) (m := 1048576) (by omega) (by omega) []
  rw [List.append_nil] at c1 c2 c3
  have e1 : hB1 (sectHead s) = venc s.2.1.toNat ++ venc s.2.2.length := by unfold hB1 sectHead; rw [a2, List.drop_left]
  have e2 : hB2 (sectHead s) = venc s.2.2.length := by unfold hB2; rw [e1, b2, List.drop_left]
  have e3 : hB3 (sectHead s) = [] := by unfold hB3; rw [e2, c2, List.drop_length]
  have q3 : sE (sectHead s) 1048576 = 0 := a3
  rw [headS_yes (by simpa using q3) (by rw [e1]; simpa using b3) (by rw [e2]; simpa using c3), e1, e2, e3, b1, c1, show sX (sectHead s) 1048576 = _ from a1]
  rw [show ((s.1.toNat : Nat) : Int) = s.1 by omega, show ((s.2.1.toNat : Nat) : Int) = s.2.1 by omega]
  rfl
theorem comGo_there : ∀ {l : List DCommit} {b r : Bytes} {a : Nat} {acc : List DCommit}, (∀ c ∈ l, cCheck c = 0) → b.drop a = cFrames l ++ r → comGo l.length b acc (a : Int) = some (acc ++ l, ((a + (cFrames l).length : Nat) : Int))
  | [], b, r, a, acc, _, hd => by simp [comGo, cFrames]
  | c :: l, b, r, a, acc, hc, hd => by
    rw [cFrames_cons, List.append_assoc] at hd
    obtain ⟨k1, k2⟩ := frame_there (hc c (.head _)) (cFrames l ++ r)
    rw [← hd] at k1
    show comGo (l.length + 1) b acc (a : Int) = _
    rw [comGo, Int.toNat_natCast, k1, if_neg (by simp), if_neg (by rw [k2]; simp), k2]
    dsimp only
    have hn : b.drop (a + (cFrame c).length) = cFrames l ++ r := by rw [← List.drop_drop, hd, List.drop_left]
    have ih := comGo_there (acc := acc ++ [c]) (fun x hx => hc x (.tail _ hx)) hn
    rw [← Int.natCast_add, ih, cFrames_cons]
    simp [Nat.add_assoc]
theorem secRead_there {s : DSection} (h : sectCheck s = 0) (r : Bytes) : secRead (sectEnc s ++ r) = (s, ((sectEnc s).length : Int), true) := by
  have hl := sectHead_len h
  have e1 : fRead (sectEnc s ++ r) = (sectHead s, ((fEnc (sectHead s)).length : Int), 0) := by
    unfold sectEnc; rw [List.append_assoc]; exact fRead_there (by omega) _
  have e2 := headS_there h
  have e3 : (sectEnc s ++ r).drop (fEnc (sectHead s)).length = cFrames s.2.2 ++ r := by unfold sectEnc; rw [List.append_assoc, List.drop_left]
  have e4 := comGo_there (acc := []) (sect_commits h) e3
  rw [sec_yes (cs := s.2.2) (a := ((sectEnc s).length : Int)) (by rw [e1]; simp) (by rw [e1, e2]; simp) (by rw [e1, e2]; dsimp only; rw [Int.toNat_natCast, e4]; simp [sectEnc]), e1, e2]
  dsimp only
  rw [decide_eq_true h]
def scanS : Nat → Bytes → List DSection → Int → Int → List DSection × Int
  | 0, _, out, a, _ => (out, a)
  | k + 1, B, out, a, ep => if (secRead (B.drop a.toNat)).2.2 = false ∨ (secRead (B.drop a.toNat)).1.1 ≤ ep then (out, a) else scanS k B (out ++ [(secRead (B.drop a.toNat)).1]) (a + (secRead (B.drop a.toNat)).2.1) (secRead (B.drop a.toNat)).1.1
def scanF (B : Bytes) : List DSection × Int := scanS B.length B [] 0 0
section
variable {B : Bytes} {k : Nat} {out : List DSection} {a ep : Int} {p : List DSection × Int}
theorem scan_end (hp : p = scanS k B out a ep) (h : (secRead (B.drop a.toNat)).2.2 = false ∨ (secRead (B.drop a.toNat)).1.1 ≤ ep) : p = (out, a) := by
  rw [hp]; cases k with
  | zero => rfl
  | succ k => exact if_pos h
theorem scan_next (hp : p = scanS k B out a ep) (ha : 0 ≤ a) (hk : (B.length : Int) - a ≤ k) (h : ¬ (secRead (B.drop a.toNat)).2.2 = false) (h2 : ¬ (secRead (B.drop a.toNat)).1.1 ≤ ep) :
    p = scanS (k - 1) B (out ++ [(secRead (B.drop a.toNat)).1]) (a + (secRead (B.drop a.toNat)).2.1) (secRead (B.drop a.toNat)).1.1 := by
  rw [hp]; cases k with
  | zero =>
    exfalso
    have := secRead_bounds (B.drop a.toNat)
    have h3 := this.2.2.1 (by simpa using h)
    simp only [List.length_drop] at this
    omega
  | succ k => rw [scanS, if_neg (fun q => q.elim h h2)]; rfl
theorem sec_at (B : Bytes) {a : Int} (h : 0 ≤ a) (h2 : a ≤ B.length) : 0 ≤ (secRead (B.drop a.toNat)).2.1 ∧ a + (secRead (B.drop a.toNat)).2.1 ≤ B.length := by
  have := secRead_bounds (B.drop a.toNat)
  simp only [List.length_drop] at this
  omega
end
theorem scanS_bounds {B : Bytes} : ∀ {k : Nat} {out : List DSection} {a ep : Int}, 0 ≤ a → a ≤ B.length → a ≤ (scanS k B out a ep).2 ∧ (scanS k B out a ep).2 ≤ B.length ∧ (scanS k B out a ep).1.length ≤ out.length + k ∧ ((∀ s ∈ out, sectCheck s = 0) → ∀ s ∈ (scanS k B out a ep).1, sectCheck s = 0)
  | 0, out, a, ep, h, h2 => ⟨Int.le_refl _, h2, Nat.le_refl _, fun h => h⟩
  | k + 1, out, a, ep, h, h2 => by
    unfold scanS
    split
    · exact ⟨Int.le_refl _, h2, by dsimp only; omega, fun h => h⟩
    · rename_i h3
      have hb := sec_at B h h2
      have ih := scanS_bounds (k := k) (out := out ++ [(secRead (B.drop a.toNat)).1]) (ep := (secRead (B.drop a.toNat)).1.1) (a := a + (secRead (B.drop a.toNat)).2.1) (by omega) hb.2
      simp only [List.length_append, List.length_cons, List.length_nil] at ih
      refine ⟨by omega, ih.2.1, by omega, fun hs => ih.2.2.2 fun s hs2 => ?_⟩
      rcases List.mem_append.1 hs2 with q | q
      · exact hs s q
      · simp only [List.mem_cons, List.not_mem_nil, or_false] at q; subst q
        exact ((secRead_bounds (B.drop a.toNat)).2.2.1 (by simpa using fun q => h3 (.inl q))).2
theorem scanF_bounds (B : Bytes) : 0 ≤ (scanF B).2 ∧ (scanF B).2 ≤ B.length ∧ (scanF B).1.length ≤ B.length ∧ ∀ s ∈ (scanF B).1, sectCheck s = 0 := by
  have := scanS_bounds (B := B) (k := B.length) (out := []) (a := 0) (ep := 0) (Int.le_refl _) (by omega)
  exact ⟨this.1, this.2.1, by have h := this.2.2.1; rw [List.length_nil, Nat.zero_add] at h; exact h, this.2.2.2 fun _ h => by cases h⟩
def hasS (l : List DSection) (e n : Int) : Bool := l.any fun s => s.2.2.any fun c => decide (c.1 = e ∧ c.2.1 = n)
section
variable {s : DSection} {b : Bytes} {k : Nat} {x : DCommit}
theorem senc_headA (h : sectCheck s = 0) : fAppend [] (venc s.1.toNat ++ venc s.2.1.toNat ++ venc s.2.2.length) = (fEnc (sectHead s), 0) := by
  have h1 := sectHead_len h
  have e : venc s.1.toNat ++ venc s.2.1.toNat ++ venc s.2.2.length = sectHead s := List.append_assoc ..
  rw [e, fAppend_good (by omega)]; rfl
theorem senc_head0 (h : sectCheck s = 0) : (fAppend [] (venc s.1.toNat ++ venc s.2.1.toNat ++ venc s.2.2.length)).2 = 0 := by rw [senc_headA h]
theorem senc_head1 (h : sectCheck s = 0) : (fAppend [] (venc s.1.toNat ++ venc s.2.1.toNat ++ venc s.2.2.length)).1 ++ cFrames (s.2.2.drop 0) = sectEnc s := by rw [senc_headA h]; rfl
theorem senc_head2 (h : sectCheck s = 0) : (fAppend [] (venc s.1.toNat ++ venc s.2.1.toNat ++ venc s.2.2.length)).1.length ≤ 40 + 710 * 0 := by
  have h1 := sectHead_len h
  have := fEnc_len (r := sectHead s) (by omega)
  rw [senc_headA h]; dsimp only; omega
theorem senc_one (h : sectCheck s = 0) (hx : s.2.2[k]? = some x) : cCheck x = 0 ∧ fAppend b (cEncode x).1 = (b ++ cFrame x, 0) := by
  have h1 := sect_commits h x (List.mem_of_getElem? hx)
  have h2 := cEnc_len h1
  refine ⟨h1, ?_⟩
  unfold cEncode; rw [if_pos h1]; dsimp only
  rw [fAppend_good (by omega)]; rfl
theorem senc_step0 (h : sectCheck s = 0) (hx : s.2.2[k]? = some x) : (fAppend b (cEncode x).1).2 = 0 := by rw [(senc_one h hx).2]
theorem senc_step1 (h : sectCheck s = 0) (hb : b ++ cFrames (s.2.2.drop k) = sectEnc s) (hx : s.2.2[k]? = some x) : (fAppend b (cEncode x).1).1 ++ cFrames (s.2.2.drop (k + 1)) = sectEnc s := by
  rw [(senc_one h hx).2, ← hb, drop_next hx, cFrames_cons, List.append_assoc]
theorem senc_step2 (h : sectCheck s = 0) (hl : b.length ≤ 40 + 710 * k) (hx : s.2.2[k]? = some x) : (fAppend b (cEncode x).1).1.length ≤ 40 + 710 * (k + 1) := by
  have := cFrame_len (senc_one (b := b) h hx).1
  rw [(senc_one h hx).2]; simp only [List.length_append]; omega
theorem senc_step3 (h : sectCheck s = 0) (hb : b ++ cFrames (s.2.2.drop k) = sectEnc s) (hx : s.2.2[k]? = some x) : b ++ frameC x ++ cFrames (s.2.2.drop (k + 1)) = sectEnc s := by
  rw [frameC_is (senc_one (b := b) h hx).1, ← hb, drop_next hx, cFrames_cons, List.append_assoc]
theorem senc_step4 (h : sectCheck s = 0) (hl : b.length ≤ 40 + 710 * k) (hx : s.2.2[k]? = some x) : (b ++ frameC x).length ≤ 40 + 710 * (k + 1) := by
  have := cFrame_len (senc_one (b := b) h hx).1
  rw [frameC_is (senc_one (b := b) h hx).1]; simp only [List.length_append]; omega
end
end
section
set_option linter.unusedVariables false
section
variable {d : DDisk} {f n : Int} {b : Bytes}
theorem read_err (d : DDisk) : (dRead d 3).2 = wrongD d := by
  unfold dRead; split
  · rfl
  · rename_i h; rw [if_neg (by decide)]; exact (Decidable.not_not.1 h).symm
theorem read_held {f : Int} (h : wrongD d = 0) (hf : inF f) : dRead d f = (heldB d.2.2.2.2.2.1 d.2.2.2.2.2.2 f, 0) := by
  unfold dRead; rw [if_neg (by rw [h]; decide), if_neg (Decidable.not_not.2 hf)]
theorem go_fused : ∀ (n : Nat) {d : DDisk} {b : Bytes}, (writeGo n d f b).1.2.2.1 = d.2.2.1
  | 0, d, b => rfl
  | n + 1, d, b => by
    unfold writeGo
    split
    · rfl
    · split
      · rw [go_fused n]; exact burn_fused d
      · exact burn_fused d
theorem write_fused : (dWrite d f b).1.2.2.1 = d.2.2.1 := by
  unfold dWrite; split
  · rfl
  · split
    · rfl
    · exact go_fused _
theorem sync_fused : (dSync d).1.2.2.1 = d.2.2.1 := by
  unfold dSync; split
  · rfl
  · split <;> exact burn_fused d
theorem go_err : ∀ (n : Nat) {d : DDisk} {b : Bytes}, (writeGo n d f b).2 = 0 ∨ (writeGo n d f b).2 = 6
  | 0, d, b => .inl rfl
  | n + 1, d, b => by
    unfold writeGo
    split
    · exact .inl rfl
    · split
      · exact go_err n
      · exact .inr rfl
theorem burn_wrong (h : wrongD d = 0) : ((burnD d).2 = true → wrongD (burnD d).1 = 0) ∧ (¬ (burnD d).2 = true → wrongD (burnD d).1 = 6) := by
  have hm : ¬ d.1 = false := fun q => by unfold wrongD at h; rw [if_pos q] at h; cases h
  have ho : ¬ d.2.1 = true := fun q => by unfold wrongD at h; rw [if_neg hm, if_pos q] at h; cases h
  unfold burnD
  split
  · split
    · refine ⟨fun q => (by cases q), fun _ => ?_⟩
      unfold wrongD; rw [if_neg hm, if_pos rfl]
    · refine ⟨fun _ => ?_, fun q => absurd rfl q⟩
      unfold wrongD; rw [if_neg hm, if_neg ho]
  · refine ⟨fun _ => ?_, fun q => absurd rfl q⟩
    unfold wrongD; rw [if_neg hm, if_neg ho]
theorem write_err (h : wrongD d = 0) (hf : inF f) : (dWrite d f b).2 = 0 ∨ (dWrite d f b).2 = 6 := by
  unfold dWrite; rw [if_neg (by rw [h]; decide), if_neg (Decidable.not_not.2 hf)]; exact go_err _
theorem cut_err (h : wrongD d = 0) (hf : inF f) (hn : 0 ≤ n) (hl : n ≤ (heldB d.2.2.2.2.2.1 d.2.2.2.2.2.2 f).length) : (dCut d f n).2 = 0 ∨ (dCut d f n).2 = 6 := by
  unfold dCut; rw [if_neg (by rw [h]; decide), if_neg (fun q => q.elim (fun q => q hf) fun q => q.elim (fun q => by omega) fun q => by omega)]
  split
  · exact .inl rfl
  · exact .inr rfl
theorem go_wrong : ∀ (n : Nat) {d : DDisk} {b : Bytes}, wrongD d = 0 → wrongD (writeGo n d f b).1 = (writeGo n d f b).2
  | 0, d, b, h => h
  | n + 1, d, b, h => by
    unfold writeGo
    split
    · exact h
    · split
      · rename_i hb; exact go_wrong n ((burn_wrong h).1 hb)
      · rename_i hb; exact (burn_wrong h).2 hb
theorem write_wrong (h : wrongD d = 0) (hf : inF f) : wrongD (dWrite d f b).1 = (dWrite d f b).2 := by
  unfold dWrite; rw [if_neg (by rw [h]; decide), if_neg (Decidable.not_not.2 hf)]; exact go_wrong _ h
theorem cut_wrong (h : wrongD d = 0) (hf : inF f) (hn : 0 ≤ n) (hl : n ≤ (heldB d.2.2.2.2.2.1 d.2.2.2.2.2.2 f).length) : wrongD (dCut d f n).1 = (dCut d f n).2 := by
  unfold dCut; rw [if_neg (by rw [h]; decide), if_neg (fun q => q.elim (fun q => q hf) fun q => q.elim (fun q => by omega) fun q => by omega)]
  split
  · rename_i hb; exact (burn_wrong h).1 hb
  · rename_i hb; exact (burn_wrong h).2 hb
theorem sync_err (h : wrongD d = 0) : (dSync d).2 = 0 ∨ (dSync d).2 = 6 := by
  unfold dSync; rw [if_neg (by rw [h]; decide)]
  split
  · exact .inl rfl
  · exact .inr rfl
end
def trimD (d : DDisk) (f base : Int) : DDisk × Int := if base < (heldB d.2.2.2.2.2.1 d.2.2.2.2.2.2 f).length then dCut d f base else (d, 0)
def putD (d : DDisk) (f : Int) (b : Bytes) : DDisk × Int := if ¬ (dWrite d f b).2 = 0 then dWrite d f b else dSync (dWrite d f b).1
def orphW (d : DDisk) (base : Int) (s : DSection) : DDisk × Int :=
  if ¬ wrongD d = 0 then (d, wrongD d) else if ¬ sectCheck s = 0 then (d, sectCheck s) else if base < 0 ∨ ((heldB d.2.2.2.2.2.1 d.2.2.2.2.2.2 3).length : Int) < base then (d, 2) else
    if ¬ (trimD d 3 base).2 = 0 then trimD d 3 base else putD (trimD d 3 base).1 3 (sectEnc s)
section
variable {d : DDisk} {base : Int} {s : DSection}
theorem ow_bad1 (h : ¬ (dRead d 3).2 = 0) : orphW d base s = (d, (dRead d 3).2) := by rw [read_err] at h ⊢; exact if_pos h
theorem ow_ok (h : ¬ ¬ (dRead d 3).2 = 0) : wrongD d = 0 ∧ dRead d 3 = (heldB d.2.2.2.2.2.1 d.2.2.2.2.2.2 3, 0) := by
  rw [read_err] at h
  have h0 := Decidable.not_not.1 h
  exact ⟨h0, read_held h0 (by decide)⟩
theorem enc_err (s : DSection) : (sectEncode s).2 = sectCheck s := by unfold sectEncode; split <;> simp [*]
theorem ow_bad2 (h : ¬ ¬ (dRead d 3).2 = 0) (h2 : ¬ (sectEncode s).2 = 0) : orphW d base s = (d, (sectEncode s).2) := by
  have := ow_ok h; rw [enc_err] at h2 ⊢
  unfold orphW; rw [if_neg (by rw [this.1]; decide), if_pos h2]
theorem ow_bad3 (h : ¬ ¬ (dRead d 3).2 = 0) (h2 : ¬ ¬ (sectEncode s).2 = 0) (h3 : base < 0 ∨ ((dRead d 3).1.length : Int) < base) : orphW d base s = (d, 2) := by
  have := ow_ok h; rw [enc_err] at h2; rw [this.2] at h3
  unfold orphW; rw [if_neg (by rw [this.1]; decide), if_neg h2, if_pos h3]
theorem ow_go (h : ¬ ¬ (dRead d 3).2 = 0) (h2 : ¬ ¬ (sectEncode s).2 = 0) (h3 : ¬ base < 0) (h4 : ¬ ((dRead d 3).1.length : Int) < base) :
    orphW d base s = if ¬ (trimD d 3 base).2 = 0 then trimD d 3 base else putD (trimD d 3 base).1 3 (sectEnc s) := by
  have := ow_ok h; rw [enc_err] at h2; rw [this.2] at h4
  unfold orphW; rw [if_neg (by rw [this.1]; decide), if_neg h2, if_neg (fun q => q.elim h3 h4)]
theorem trim_yes (h : ¬ ¬ (dRead d 3).2 = 0) (h5 : base < ((dRead d 3).1.length : Int)) : trimD d 3 base = dCut d 3 base := by
  have := ow_ok h; rw [this.2] at h5; exact if_pos h5
theorem trim_no (h : ¬ ¬ (dRead d 3).2 = 0) (h5 : ¬ base < ((dRead d 3).1.length : Int)) : trimD d 3 base = (d, 0) := by
  have := ow_ok h; rw [this.2] at h5; exact if_neg h5
theorem enc_is (h2 : ¬ ¬ (sectEncode s).2 = 0) : (sectEncode s).1 = sectEnc s := by rw [enc_err] at h2; rw [sectEncode_good h2]
theorem ow_cutbad (h : ¬ ¬ (dRead d 3).2 = 0) (h2 : ¬ ¬ (sectEncode s).2 = 0) (h3 : ¬ base < 0) (h4 : ¬ ((dRead d 3).1.length : Int) < base) (h5 : base < ((dRead d 3).1.length : Int)) (h6 : ¬ (dCut d 3 base).2 = 0) : orphW d base s = dCut d 3 base := by
  rw [ow_go h h2 h3 h4, trim_yes h h5, if_pos h6]
theorem ow_wbad1 (h : ¬ ¬ (dRead d 3).2 = 0) (h2 : ¬ ¬ (sectEncode s).2 = 0) (h3 : ¬ base < 0) (h4 : ¬ ((dRead d 3).1.length : Int) < base) (h5 : base < ((dRead d 3).1.length : Int)) (h6 : ¬ ¬ (dCut d 3 base).2 = 0) (h7 : ¬ (dWrite (dCut d 3 base).1 3 (sectEncode s).1).2 = 0) : orphW d base s = dWrite (dCut d 3 base).1 3 (sectEncode s).1 := by
  rw [ow_go h h2 h3 h4, trim_yes h h5, if_neg h6, putD, ← enc_is h2, if_pos h7]
theorem ow_good1 (h : ¬ ¬ (dRead d 3).2 = 0) (h2 : ¬ ¬ (sectEncode s).2 = 0) (h3 : ¬ base < 0) (h4 : ¬ ((dRead d 3).1.length : Int) < base) (h5 : base < ((dRead d 3).1.length : Int)) (h6 : ¬ ¬ (dCut d 3 base).2 = 0) (h7 : ¬ ¬ (dWrite (dCut d 3 base).1 3 (sectEncode s).1).2 = 0) : orphW d base s = dSync (dWrite (dCut d 3 base).1 3 (sectEncode s).1).1 := by
  rw [ow_go h h2 h3 h4, trim_yes h h5, if_neg h6, putD, ← enc_is h2, if_neg h7]
theorem ow_wbad2 (h : ¬ ¬ (dRead d 3).2 = 0) (h2 : ¬ ¬ (sectEncode s).2 = 0) (h3 : ¬ base < 0) (h4 : ¬ ((dRead d 3).1.length : Int) < base) (h5 : ¬ base < ((dRead d 3).1.length : Int)) (h7 : ¬ (dWrite d 3 (sectEncode s).1).2 = 0) : orphW d base s = dWrite d 3 (sectEncode s).1 := by
  rw [ow_go h h2 h3 h4, trim_no h h5, if_neg (fun q => q rfl), putD, ← enc_is h2, if_pos h7]
theorem ow_good2 (h : ¬ ¬ (dRead d 3).2 = 0) (h2 : ¬ ¬ (sectEncode s).2 = 0) (h3 : ¬ base < 0) (h4 : ¬ ((dRead d 3).1.length : Int) < base) (h5 : ¬ base < ((dRead d 3).1.length : Int)) (h7 : ¬ ¬ (dWrite d 3 (sectEncode s).1).2 = 0) : orphW d base s = dSync (dWrite d 3 (sectEncode s).1).1 := by
  rw [ow_go h h2 h3 h4, trim_no h h5, if_neg (fun q => q rfl), putD, ← enc_is h2, if_neg h7]
theorem trim_ok {f : Int} (h : okD d) : okD (trimD d f base).1 := by unfold trimD; split <;> first | exact cut_ok h | exact h
theorem put_ok {f : Int} {b : Bytes} (h : okD d) : okD (putD d f b).1 := by unfold putD; split <;> first | exact write_ok h | exact sync_ok (write_ok h)
theorem orphW_ok (h : okD d) : okD (orphW d base s).1 := by
  unfold orphW; split
  · exact h
  · split
    · exact h
    · split
      · exact h
      · split
        · exact trim_ok h
        · exact put_ok (trim_ok h)
theorem trim_w {f : Int} (h : okD d) : wD (trimD d f base).1 ≤ wD d + 2 := by
  unfold trimD; split
  · exact cut_w h
  · show wD d ≤ _; omega
theorem put_w {f : Int} {b : Bytes} (h : okD d) : wD (putD d f b).1 ≤ wD d + 3 * b.length + 2 := by
  have h1 := write_w (f := f) (b := b) h
  unfold putD; split
  · omega
  · have := sync_w (write_ok (f := f) (b := b) h); omega
theorem orphW_w (h : okD d) : wD (orphW d base s).1 ≤ wD d + 3 * (sectEncode s).1.length + 4 := by
  unfold orphW; split
  · show wD d ≤ _; omega
  · split
    · show wD d ≤ _; omega
    · split
      · show wD d ≤ _; omega
      · rename_i h2 _
        have h1 := trim_w (f := 3) (base := base) h
        split
        · omega
        · have h3 := put_w (f := 3) (b := sectEnc s) (trim_ok (f := 3) (base := base) h)
          rw [sectEncode_good h2]; dsimp only; omega
theorem nf_trim {f : Int} (h : nf d) : nf (trimD d f base).1 := by unfold trimD; split <;> first | exact nf_cut h | exact h
theorem nf_put {f : Int} {b : Bytes} (h : nf d) : nf (putD d f b).1 := by unfold putD; split <;> first | exact nf_write h | exact nf_sync (nf_write h)
theorem nf_orphW (h : nf d) : nf (orphW d base s).1 := by
  unfold orphW; split
  · exact h
  · split
    · exact h
    · split
      · exact h
      · split
        · exact nf_trim h
        · exact nf_put (nf_trim h)
end
end
section
section
variable {P : Program} {n : Nat} {w0 : World} {σ : Env} {Ω ΩS : Ctx} {ops : Array Oper} {K : Env → Ctx → Prop}
theorem VD.store {tt q : Nat} {ss : List (Nat × Bool)} {ty : TypeId} {pos : String} {af : Array Edge} {t : TypeId} {x y : Operand} {g off : Nat} {v : Value} {k : Nat} (i : Nat) {c : Array Value} {E : TypeId} {c' : List Value}
    (ho : ops[q]? = some ⟨none, .store t x y, ty, pos, af, none⟩)
    (hx : ev σ x = some (.pointer (some ⟨g, off, none⟩))) (hy : ev σ y = some v) (ht : tk P t = some (some k) ∨ (tk P t = some none ∧ k = 1)) (hk : Nat.beq v.cells.size k = true) (hn : nice v = true)
    (hm : cget Ω i = some (mone g (.cells c E (0, 0)))) (hl : Nat.ble (off + k) c.size = true) (hc : splice c.toList off v.cells.toList = c')
    (hS : ∀ W, Inv w0 (cset Ω i (mone g (.cells c'.toArray E (0, 0)))) W → Inv w0 ΩS W)
    (h : VD P n w0 ops ΩS tt ss σ (cset Ω i (mone g (.cells c'.toArray E (0, 0)))) K) : VD P n w0 ops ΩS tt ((q, false) :: ss) σ Ω K :=
  VD.s (fun _ => σ) ho (fun _ _ he => he) (.inl rfl) (Stp.store i hx hy ht hk hn hm (mone_self _ _) hl) (fun _ _ ⟨_, hΩ⟩ W hW => hS W (by rw [hΩ, mset_one, hc] at hW; exact hW)) (fun _ _ ⟨_, hΩ⟩ => by rw [hΩ, mset_one, hc]; exact h)
end
def KeptA (sz : Nat) (m : Mem) (v : Value) (len : Nat) (cs : List Value) : Prop := ∃ A cap, v = .slice A len cap ∧ len ≤ cap ∧ cap ≤ maxLen ∧ ((len = 0 ∧ cs = []) ∨ ∃ g off, A = some ⟨g, off, none⟩ ∧ cellsAt m g off (len * sz) cs)
section
variable {P : Program} {n : Nat} {w0 : World} {σ : Env} {Ω ΩS : Ctx} {ops : Array Oper} {K : Env → Ctx → Prop}
variable {ty : TypeId} {pos : String} {af : Array Edge} {d : Option Tmp} {gd : Option (Nat × Bool)} {r : List Oper}
theorem Stp.appK {s x : Operand} {t xt e : TypeId} {sz b len k : Nat} {v xv : Value} {cs xs z : List Value} (i : Nat) {m m0 : Mem} (hsv : ev σ s = some v) (hxv : ev σ x = some xv) (ht : tsl P t = some (e, sz, b)) (hz : tz P e = some z) (hzl : z.length = sz)
    (hm : cget Ω i = some m) (hm0 : mle m0 m) (hown : OwnA sz m0 v len cs) (hs' : Src P Ω sz xt xv k xs) (h1 : ∀ u ∈ xs, u.oneCell' = true) (hml : len + k ≤ maxLen) (hb : (len + k) * b ≤ 140737488355328) (hb0 : b ≠ 0) :
    Stp P n w0 σ Ω ⟨d, .call { callee := .builtin .append, args := [s, x].toArray, argTypes := [t, xt].toArray }, ty, pos, af, gd⟩ (fun v' Ω' => ∃ m' mo, mle mo m' ∧ OwnA sz mo v' (len + k) (cs ++ xs) ∧ KeptA sz m' v len cs ∧ Ω' = cset Ω i m') := fun a W he hi K' Q hK => by
  have hs : SrcW P W sz xt xv k xs := hs'.w hi
  have hex : ∀ (res : Value) (W' : World), (Builtin.append_ #[t, xt] ty #[v, xv]).run P W = .ok res W' → (execOp a.eval ⟨d, .call { callee := .builtin .append, args := [s, x].toArray, argTypes := [t, xt].toArray }, ty, pos, af, gd⟩).run P W = .ok (.value res) W' := by
    intro res W' h
    simp [execOp, resolve, invoke, builtin, he.eval hsv, he.eval hxv, h]
  have grow : ∀ (A : Option Addr) (cap : Nat), v = .slice A len cap → (∀ W', W'.heap = W.heap → (Builtin.firstCells sz len (.slice A len cap)).run P W' = .ok cs.toArray W') → cap < len + k → KeptA sz m0 v len cs →
      (⟨d, .call { callee := .builtin .append, args := [s, x].toArray, argTypes := [t, xt].toArray }, ty, pos, af, gd⟩ : Oper).wp P a W K' Q := by
    intro A cap hv hold hgt hkp
    subst hv
    obtain ⟨ncap, rest, hn1, hn2, hr, hrun⟩ := append_grow ht hz hs ty hold hgt hml hb hb0
    unfold Oper.wp
    rw [hex _ _ hrun]
    have hl1 := hown.len_eq
    have hl2 := hs.len
    have hnew : ∀ q o, m0 q = some o → q ≠ W.heap.size := fun q o hq hqq => by
      subst hqq
      have := hi.at hm _ o (hm0 _ o hq)
      unfold wm at this
      simp at this
    have hdj : mdj m0 (mone W.heap.size (.cells (cs ++ xs ++ rest).toArray e (0, 0))) := fun q => by
      by_cases hq : q = W.heap.size
      · left
        cases hmq : m0 q with
        | none => rfl
        | some o => exact absurd hq (hnew q o hmq)
      · exact .inr (mone_ne _ hq)
    refine hK _ _ _ ⟨mun m0 (mone W.heap.size (.cells (cs ++ xs ++ rest).toArray e (0, 0))), mone W.heap.size (.cells (cs ++ xs ++ rest).toArray e (0, 0)), mle_un_right hdj, ?_, ?_, rfl⟩ (hi.set hm rfl rfl rfl (by simp) ?_ (mun_le (fun q o hq => ?_) (mone_le ?_)) fun g => ?_)
    · have hlen : (cs ++ xs ++ rest).length = ncap * sz := by
        simp only [List.length_append, hl1, hl2, hr, hzl, ← Nat.add_mul]
        congr 1; omega
      have := OwnA.row (sz := sz) W.heap.size 0 (len + k) ncap e (cs ++ xs ++ rest) (by rw [hlen]; omega) hn1 hn2
      rw [List.drop_zero, List.take_append_of_le_length (by simp [hl1, hl2, Nat.add_mul]), List.take_of_length_le (by simp [hl1, hl2, Nat.add_mul])] at this
      exact this
    · obtain ⟨A', c', e1, e2, e3, e4⟩ := hkp
      exact ⟨A', c', e1, e2, e3, e4.imp id fun ⟨g, off, q1, q2⟩ => ⟨g, off, q1, q2.mono (mle_un_left _ _)⟩⟩
    · exact (mout_le _ _).trans (wm_alloc W.drew _)
    · exact wm_alloc W.drew _ q o (hi.at hm q o (hm0 q o hq))
    · exact wm_alloc_new W.drew _
    · by_cases hg : g = W.heap.size
      · exact .inr (.inr (Nat.le_of_eq hg.symm))
      · cases hmg : m0 g with
        | none => left; unfold mun; rw [hmg]; exact mone_ne _ hg
        | some o => right; left; rw [hm0 g o hmg]; simp
  cases hown with
  | nil A =>
    by_cases hk : k = 0
    · subst hk
      have hx : xs = [] := List.eq_nil_of_length_eq_zero (by simpa using hs.len)
      subst hx
      unfold Oper.wp
      rw [hex (.slice A 0 0) W (by rw [append_eq ht hs ty (by omega)]; cases A <;> rfl)]
      exact hK _ _ _ ⟨mnil, mnil, mle_refl _, .nil A, ⟨A, 0, rfl, Nat.le_refl _, Nat.zero_le _, .inl ⟨rfl, rfl⟩⟩, rfl⟩ (hi.set hm rfl rfl rfl (Nat.le_refl _) (mout_le _ _) (mle_nil _) fun g => .inl rfl)
    · exact grow A 0 rfl (fun W' _ => by cases A <;> simp [Builtin.firstCells, loadCells, loadCellsFrom]) (by omega) ⟨A, 0, rfl, Nat.le_refl _, Nat.zero_le _, .inl ⟨rfl, rfl⟩⟩
  | row g off len cap E c h1' h2' h3' =>
    have hmul0 := Nat.mul_le_mul_right sz h2'
    have kept0 : ∀ c2 : List Value, c2.length = c.length → (c2.drop off).take (len * sz) = (c.drop off).take (len * sz) → KeptA sz (mone g (.cells c2.toArray E (0, 0))) (.slice (some ⟨g, off, none⟩) len cap) len ((c.drop off).take (len * sz)) := fun c2 hl hc =>
      ⟨_, _, rfl, h2', h3', .inr ⟨g, off, rfl, c2.toArray, E, (0, 0), mone_self _ _, by simp; omega, by simp [hc]⟩⟩
    by_cases hle : len + k ≤ cap
    · have hg := hi.at hm g _ (hm0 g _ (mone_self _ _))
      have hmul := Nat.mul_le_mul_right sz hle
      have hl2 := hs.len
      obtain ⟨W', hrun, ho, htp, hu, hsz, hfar, hgg⟩ := setCells_heap (P := P) xs W g (off + len * sz) c.toArray E (0, 0) hg (by simp [hl2]; rw [Nat.add_mul] at hmul; omega) (Nat.le_refl _) h1 0 (off + len * sz) rfl
      unfold Oper.wp
      rw [hex (.slice (some ⟨g, off, none⟩) (len + k) cap) W' (by rw [append_eq ht hs ty hle]; simp only [add_off, hrun]; rfl)]
      have hsl : splice c (off + len * sz) xs = c.take (off + len * sz) ++ (xs ++ c.drop (off + len * sz + xs.length)) := rfl
      have hlc : (splice c (off + len * sz) xs).length = c.length := by rw [hsl]; simp [hl2]; rw [Nat.add_mul] at hmul; omega
      have e0 : List.drop off (splice c (off + len * sz) xs) = List.take (len * sz) (List.drop off c) ++ (xs ++ c.drop (off + len * sz + xs.length)) := by
        rw [hsl, List.drop_append_of_le_length (by simp; rw [Nat.add_mul] at hmul; omega)]
        congr 1
        rw [List.drop_take]; congr 1; omega
      refine hK _ _ _ ⟨mone g (.cells (splice c (off + len * sz) xs).toArray E (0, 0)), mone g (.cells (splice c (off + len * sz) xs).toArray E (0, 0)), mle_refl _, ?_, kept0 _ hlc ?_, rfl⟩ (hi.set hm ho htp hu (Nat.le_of_eq hsz.symm) ?_ (mone_le hgg) fun g' => ?_)
      · have := OwnA.row (sz := sz) g off (len + k) cap E (splice c (off + len * sz) xs) (by rw [hlc]; exact h1') hle h3'
        have e1 : List.take ((len + k) * sz) (List.drop off (splice c (off + len * sz) xs)) = List.take (len * sz) (List.drop off c) ++ xs := by
          rw [e0, ← List.append_assoc]
          have e3 : (List.take (len * sz) (List.drop off c) ++ xs).length = (len + k) * sz := by
            rw [Nat.add_mul] at hmul ⊢
            simp [hl2]; omega
          rw [← e3]
          exact List.take_left
        rw [e1] at this
        exact this
      · rw [e0]
        have e3 : (List.take (len * sz) (List.drop off c)).length = len * sz := by simp; omega
        rw [List.take_append_of_le_length (by omega), List.take_of_length_le (by omega)]
      · intro q o h
        unfold mout at h
        split at h
        · cases h
        · rename_i hn
          have hne : q ≠ g := by rintro rfl; rw [hm0 _ _ (mone_self _ _)] at hn; cases hn
          unfold wm at h ⊢
          rw [hfar q hne]; exact h
      · by_cases hgg' : g' = g
        · subst hgg'; right; left; rw [hm0 _ _ (mone_self _ _)]; simp
        · exact .inl (mone_ne _ hgg')
    · refine grow (some ⟨g, off, none⟩) cap rfl (fun W' hW' => ?_) (by omega) (kept0 c rfl rfl)
      have hg := hi.at hm g _ (hm0 g _ (mone_self _ _))
      have hmul := Nat.mul_le_mul_right sz h2'
      refine run_loadCells' ⟨c.toArray, E, (0, 0), ?_, by simp; omega, rfl⟩
      unfold wm at hg ⊢
      rw [hW']; exact hg
theorem VO.appK {s x : Operand} {t xt e : TypeId} {sz b len k dd : Nat} {v xv : Value} {cs xs z : List Value} (i : Nat) {m m0 : Mem} (hd : Nat.blt dd n = true) (hsv : ev σ s = some v) (hxv : ev σ x = some xv) (ht : tsl P t = some (e, sz, b)) (hz : tz P e = some z) (hzl : z.length = sz)
    (hm : cget Ω i = some m) (hm0 : mle m0 m) (hown : OwnA sz m0 v len cs) (hs : Src P Ω sz xt xv k xs) (h1 : ∀ u ∈ xs, u.oneCell' = true) (hml : len + k ≤ maxLen) (hb : (len + k) * b ≤ 140737488355328) (hb0 : b ≠ 0)
    (h : ∀ v' m' mo, mle mo m' → OwnA sz mo v' (len + k) (cs ++ xs) → KeptA sz m' v len cs → VO P n w0 ops r ((dd, v') :: σ) (cset Ω i m') K) :
    VO P n w0 ops (⟨some dd, .call { callee := .builtin .append, args := [s, x].toArray, argTypes := [t, xt].toArray }, ty, pos, af, none⟩ :: r) σ Ω K :=
  VO.s hd (Stp.appK i hsv hxv ht hz hzl hm hm0 hown hs h1 hml hb hb0) fun v' _ ⟨m', mo, h0, hp, hk, hΩ⟩ => hΩ ▸ h v' m' mo h0 hp hk
end
theorem KeptA.rd {e : Ty} {m : Mem} {A : Option Addr} {c : Nat} {cs : List Value} {xs : List e.Den} (h : KeptA e.sz m (.slice A xs.length c) xs.length cs) (hc : All2c (Rd e m) cs xs) : Rd (.sl e) m [.slice A xs.length c] xs := by
  obtain ⟨A', c', h1, h2, h3, h4⟩ := h
  simp only [Value.slice.injEq, true_and] at h1
  obtain ⟨rfl, rfl⟩ := h1
  refine ⟨_, _, rfl, h2, h3, ?_⟩
  rcases h4 with ⟨h4, _⟩ | ⟨g, off, h4, h5⟩
  · exact .inl h4
  · exact .inr ⟨g, off, cs, h4, h5, hc⟩
section
variable {P : Program} {n : Nat} {w0 : World} {σ : Env} {Ω ΩS : Ctx} {ops : Array Oper} {K : Env → Ctx → Prop}
variable {ty : TypeId} {pos : String} {af : Array Edge} {r : List Oper}
theorem VO.gbox {dd j : Nat} {b : Bool} {t : TypeId} {x : Operand} {v : Value} {cs : List Value} (i : Nat) (hd : Nat.blt dd n = true) (hg : gyes σ ops j b) (hx : ev σ x = some v) (hc : v.cells = cs.toArray)
    (h : ∀ g, VO P n w0 ops r ((dd, .pointer (some ⟨g, 0, none⟩)) :: σ) ((i, mone g (.cells cs.toArray t (0, 0))) :: Ω) K) : VO P n w0 ops (⟨some dd, .box t x, ty, pos, af, some (j, b)⟩ :: r) σ Ω K :=
  VO.gs hd hg (Stp.box i hx) fun _ _ ⟨g, hv, hΩ⟩ => by rw [hv, hΩ, hc]; exact h g
end
end
end Go.Proofs.Ytbjkfnnabnacfaa
