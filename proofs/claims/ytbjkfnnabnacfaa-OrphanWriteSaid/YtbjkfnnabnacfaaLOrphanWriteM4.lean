/- Part 4 of the proof of LOrphanWrite: what it needs of the library, the walks and the plain laws. Conditions: those named in each theorem. -/
import Derived.Test.YtbjkfnnabnacfaaLOrphanWriteM3
namespace Go.Proofs.Ytbjkfnnabnacfaa
section
set_option linter.unusedVariables false
set_option linter.unusedSimpArgs false
set_option maxRecDepth 4000
theorem fnOk104 : fnOk Try.prog 104 = true := by kernel_rfl
theorem fnOk74 : fnOk Try.prog 74 = true := by kernel_rfl
theorem fnOk75 : fnOk Try.prog 75 = true := by kernel_rfl
theorem fnOk76 : fnOk Try.prog 76 = true := by kernel_rfl
theorem fnOk79 : fnOk Try.prog 79 = true := by kernel_rfl
theorem fin0_dWrite_ok {P : Prop} (h : P := by first | (rw [write_bad1 (by assumption)] <;> rfl) | (rw [write_bad2 (by assumption) (by assumption)] <;> rfl) | (rw [write_go (by assumption) (by assumption), write_off hp hn (by omega) (by assumption)] <;> rfl) | (rw [write_go (by assumption) (by assumption), write_end hp (by omega)] <;> rfl)) : P := h
theorem dWrite_ok (W : World) {m0 : Mem} (hm : mle (m0) (wm W)) {g0 : Nat} {d0 : DdiskDisk} (h0 : Ow (.ptr TdiskDisk) m0 [.pointer (some ⟨g0, 0, none⟩)] (g0, d0)) (d1 : Int) (h1 : inK .i64 d1) {v2 : Value} {d2 : List UInt8} (h2 : Rd (.sl .byte) (mout (wm W) (m0)) [v2] d2) (e0 : okD d0) (e1 : wD d0 + 3 * d2.length ≤ 1000000000000) : CallR Try.prog 35 [.pointer (some ⟨g0, 0, none⟩), .int .i64 d1, v2] W (m0) (fun v m' => v = .int .i64 ((dWrite d0 d1 d2).2) ∧ Ow (.ptr TdiskDisk) m' [.pointer (some ⟨g0, 0, none⟩)] (g0, (dWrite d0 d1 d2).1)) := by
 have hok0 := e0; obtain ⟨hg, hfu, hst⟩ := e0
 have h1' := h1; simp only [inK] at h1'
 obtain ⟨A2, c2, rfl, l2, k2⟩ := h2.slice
 simp only [maxLen] at k2
 refine CallR.ofB (n := 44) hm Try.func35 rfl rfl rfl ?_
 refine VC.rs (VO.as (VO.k4 0 1 2 6 (VC.seq (VC.rs (VO.mv ?_)))))
 refine VO.call 1 rfl fnOk75 rfl rfl (fun W hW => dWrong_ok W (hW.at (i := 1) rfl) h0) (fun v1 m1 hv1 => ?_)
 obtain ⟨rfl, w1_0⟩ := hv1
 refine VO.as (VO.k5 0 1 2 6 7 (VC.rs (VO.mv (VO.y rfl (.neq rfl rfl) ?_))))
 refine VO.kp [1, 0] [(1, m1), (0, mout (wm W) (m0))] ?_
 refine VO.k6 0 1 2 6 7 12 ?_
 refine VC.cond rfl (fun hc2 => ?_) (fun hc2 => ?_)
 · refine VC.rs (VO.mv (VO.as (VO.k6 0 1 2 6 7 12 (VC.ret (outR ?_)))))
   refine ⟨_, _, res_run (rs := [.tmp 6]) rfl (.tmp rfl .nil), fun W_ hI => out_of (l := [m1]) hI [1] rfl rfl (mle_refl _) (fun hS_ => ?_)⟩
   dsimp only [packV]
   have hm0_ : ((dWrite d0 d1 d2).1 : DdiskDisk) = d0 := by first | rfl | (exact fin0_dWrite_ok)
   refine ⟨?_, ?_⟩
   rotate_left
   · rw [hm0_]; exact (Ow.up w1_0 (hS_.1 _ (.head _)))
   all_goals (first | rfl | (exact fin0_dWrite_ok))
 refine VC.skip (outN (VC.seq (VC.rs (VO.mv ?_))))
 refine VO.callN 103 rfl fnOk74 rfl (fun W hW => dIs_ok W d1 bdk) (fun v3 m3 hv3 => ?_)
 subst hv3
 refine VO.y rfl (.notD rfl) (VO.k7 0 1 2 6 7 12 16 ?_)
 refine VC.cond rfl (fun hc4 => ?_) (fun hc4 => ?_)
 · refine VC.rs (VO.as (VO.k7 0 1 2 6 7 12 16 (VC.ret (outR ?_))))
   refine ⟨_, _, res_run (rs := [.tmp 6]) rfl (.tmp rfl .nil), fun W_ hI => out_of (l := [m1]) hI [1] rfl rfl (mle_refl _) (fun hS_ => ?_)⟩
   dsimp only [packV]
   have hm0_ : ((dWrite d0 d1 d2).1 : DdiskDisk) = d0 := by first | rfl | (exact fin0_dWrite_ok)
   refine ⟨?_, ?_⟩
   rotate_left
   · rw [hm0_]; exact (Ow.up w1_0 (hS_.1 _ (.head _)))
   all_goals (first | rfl | (exact fin0_dWrite_ok))
 refine VC.skip (outN (VC.seq (VC.block ?_)))
 refine VC.loop (G := DdiskDisk × Mem × (List UInt8) × (Option Addr) × Nat × Nat) (fun g => [(2, .slice (g.2.2.2.1) ((g.2.2.1).length) ((g.2.2.2.2.1))), (0, .pointer (some ⟨g0, 0, none⟩)), (1, .int .i64 (d1)), (7, .int .i64 (wrongD d0)), (12, .bool (decide (¬ (wrongD d0) = 0))), (16, .bool (decide (¬ (inF d1))))]) (fun g => [(1, (g.2.1)), (0, mout (wm W) (m0))]) (fun g => (writeGo d2.length d0 d1 d2 = writeGo (g.2.2.2.2.2) (g.1) d1 (g.2.2.1)) ∧ ((g.2.2.1).length ≤ (g.2.2.2.2.2)) ∧ (okD (g.1)) ∧ (wD (g.1) + 3 * (g.2.2.1).length ≤ 1000000000000) ∧ (Rd (.sl .byte) (mout (wm W) (m0)) [.slice (g.2.2.2.1) (g.2.2.1).length (g.2.2.2.2.1)] (g.2.2.1)) ∧ (Ow (.ptr TdiskDisk) (g.2.1) [.pointer (some ⟨g0, 0, none⟩)] (g0, (g.1)))) (fun g => (g.2.2.1).length) (d0, m1, d2, A2, c2, d2.length) (⟨by rfl, by (dsimp only; omega), by exact hok0, by (dsimp only; omega), h2, w1_0⟩) ⟨⟨rfl, rfl, rfl, rfl, rfl, rfl, trivial⟩, fun _ h => h.sub [1, 0]⟩ ?_
 rintro ⟨d, d_m, b, b_A, b_c, n⟩ ⟨hp, hn, hok, hw, h_b, h_d⟩
 replace hp : writeGo d2.length d0 d1 d2 = writeGo n d d1 b := hp
 replace hn : b.length ≤ n := hn
 replace hok : okD d := hok
 replace hw : wD d + 3 * b.length ≤ 1000000000000 := hw
 replace h_b : Rd (.sl .byte) (mout (wm W) (m0)) [.slice b_A b.length b_c] b := h_b
 replace h_d : Ow (.ptr TdiskDisk) d_m [.pointer (some ⟨g0, 0, none⟩)] (g0, d) := h_d
 show VC _ _ _ _ _ [(2, .slice b_A (b.length) (b_c)), (0, .pointer (some ⟨g0, 0, none⟩)), (1, .int .i64 (d1)), (7, .int .i64 (wrongD d0)), (12, .bool (decide (¬ (wrongD d0) = 0))), (16, .bool (decide (¬ (inF d1))))] [(1, d_m), (0, mout (wm W) (m0))]
 have l_b : b.length ≤ b_c := by obtain ⟨_, _, he, hl, _⟩ := h_b.slice; simp only [Value.slice.injEq] at he; omega
 have k_b : b_c ≤ 9223372036854775807 := by obtain ⟨_, _, he, _, hl⟩ := h_b.slice; simp only [Value.slice.injEq, maxLen] at he hl; omega
 refine VC.seq (VC.rs (VO.mv ?_))
 refine VO.y rfl (.lenS rfl tsl25) ?_
 refine VO.y rfl (.gtr rfl rfl) (VO.k7 0 1 2 7 12 16 19 ?_)
 refine VC.cond rfl (fun hc5 => ?_) (fun hc5 => ?_)
 refine VC.skip (outN (VC.block (VC.seq (VC.rs (VO.mv ?_)))))
 refine VO.call 1 rfl fnOk76 rfl rfl (fun W hW => dBurn_ok W (hW.at (i := 1) rfl) h_d (by assumption) bd) (fun v6 m6 hv6 => ?_)
 obtain ⟨rfl, w6_0⟩ := hv6
 have hfa7 := (burn_ok (show okD d by assumption))
 have hfa8 := (burn_w (show okD d by assumption))
 have hfa9 := (len_w (burnD d).1)
 refine VO.y rfl (.notD rfl) ?_
 refine VO.kp [1, 0] [(1, m6), (0, mout (wm W) (m0))] ?_
 refine VO.k8 0 1 2 7 12 16 19 22 ?_
 refine VC.cond rfl (fun hc10 => ?_) (fun hc10 => ?_)
 · refine VC.rs (VO.as (VO.k9 0 1 2 6 7 12 16 19 22 (VC.ret (outR (outBR (outR (outBR (outR ?_))))))))
   refine ⟨_, _, res_run (rs := [.tmp 6]) rfl (.tmp rfl .nil), fun W_ hI => out_of (l := [m6]) hI [1] rfl rfl (mle_refl _) (fun hS_ => ?_)⟩
   dsimp only [packV]
   have hm0_ : ((dWrite d0 d1 d2).1 : DdiskDisk) = (burnD d).1 := by first | rfl | (exact fin0_dWrite_ok)
   refine ⟨?_, ?_⟩
   rotate_left
   · rw [hm0_]; exact (Ow.up w6_0 (hS_.1 _ (.head _)))
   all_goals (first | rfl | (exact fin0_dWrite_ok))
 refine VC.skip (outN (VC.rs (VO.mv ?_)))
 refine VO.y rfl (.lenS rfl tsl25) ?_
 refine VO.y rfl (.minM rfl rfl) (VO.as (VO.k9 0 1 2 7 8 12 16 19 22 (VC.seq ?_)))
 obtain ⟨q11_E, q11_A5, q11_c5, q11_A6, q11_c6, q11_A7, q11_c7, q11_A8, q11_c8, q11_A9, q11_c9, q11_n5, q11_n6, q11_n7, q11_n8, q11_n9, _, q11_S, q11_3, q11_4, q11_5, q11_6, q11_7, q11_8, q11_9⟩ := openP_diskDisk (x0 := ((burnD d).1).1) (x1 := ((burnD d).1).2.1) (x2 := ((burnD d).1).2.2.1) (x3 := ((burnD d).1).2.2.2.1) (x4 := ((burnD d).1).2.2.2.2.1) (x5 := (((burnD d).1).2.2.2.2.2.1).1) (x6 := (((burnD d).1).2.2.2.2.2.1).2.1) (x7 := (((burnD d).1).2.2.2.2.2.1).2.2.1) (x8 := (((burnD d).1).2.2.2.2.2.1).2.2.2) (x9 := ((burnD d).1).2.2.2.2.2.2) w6_0
 simp only [inK] at q11_3 q11_4
 have q11_r5 := q11_5.rm
 have q11_r6 := q11_6.rm
 have q11_r7 := q11_7.rm
 have q11_r8 := q11_8.rm
 have q11_r9 := q11_9.rm
 refine VC.inv _ (fun _ h => h.parts (i := 1) rfl q11_S [117, 112, 113, 114, 115, 116]) ?_
 refine VC.regD _ 13 [(0, true), (1, true), (2, true), (3, true), (4, true), (5, true), (6, true), (7, true), (8, true), (9, false), (10, true), (11, false), (12, false)] follows (by kernel_rfl) (fun _ h => h.sub [117, 112, 113, 114, 115, 0]) ?_
 refine VD.y rfl rfl (.inl rfl) (.mv rfl) (VD.y rfl rfl (.inl rfl) (.mv rfl) (VD.y rfl rfl (.inl rfl) (.nilp rfl) (VD.y rfl rfl (.inl rfl) (.fa rfl tst72 rfl) (VD.y rfl rfl (.inl rfl) (.ld1 117 rfl tk70 rfl (cellsAt_one rfl rfl)) (VD.y rfl rfl (.inl rfl) (.mv rfl) (VD.y rfl rfl (.inl rfl) (.mv rfl) (VD.y rfl rfl (.inl rfl) (.mv rfl) ?_)))))))
 have hs18 := h_b.pre (j := ((min ((b.length : Nat) : Int) 64).toNat)) bd
 refine VD.y rfl rfl (.inl rfl) (.slHI ((min ((b.length : Nat) : Int) 64).toNat) rfl rfl tsl25 bd bd) ?_
 refine VD.inv _ (fun _ h => h.nilc 120) ?_
 obtain ⟨mo19, cs19, hM19, hA19, hC19⟩ := (OwnL.nil .byte mnil mnil)
 obtain ⟨all19, hS19, hR19⟩ := Rd.srcI (P := Try.prog) (hs18) Try.underlying25
 refine VD.app 120 rfl rfl rfl rfl tsl25 tz5 rfl rfl hM19 hA19 (hS19 _ 0 rfl) hR19.nice bdm bd (by decide) (fun _ _ h => h.sub [117, 112, 113, 114, 115, 0]) (fun v19 m19 hN19 => ?_)
 have ho19 : OwnL .byte m19 mnil v19 ((b).take ((min ((b.length : Nat) : Int) 64).toNat)) := OwnL.more hC19 hN19 (All2c.mono hR19 fun _ _ h => Rd.flat rfl h _)
 obtain ⟨A19, c19, rfl, l19, k19⟩ := ho19.slice
 simp only [maxLen] at k19
 refine VD.y rfl rfl (.inl rfl) (.bst (cs := [.int .i64 (0), .int .i64 (d1), .slice A19 (((b).take ((min ((b.length : Nat) : Int) 64).toNat)).length) (c19), .int .i64 (0)]) rfl tst101 tz101 rfl) ?_
 refine VD.bsl (cs := [Value.int .i64 (0), Value.int .i64 (d1), Value.slice A19 (((b).take ((min ((b.length : Nat) : Int) 64).toNat)).length) (c19), Value.int .i64 (0)]) 122 rfl rfl rfl tsl70 tz101 rfl rfl (fun _ h => h.sub [117, 112, 113, 114, 115, 0]) (fun g21 => ?_)
 refine VD.appO (e := Tdiskstep) 116 120 122 rfl rfl rfl rfl tsl70 tz101 rfl rfl rfl rfl q11_9 (mkO_diskstep 0 d1 ((b).take ((min ((b.length : Nat) : Int) 64).toNat)) 0 (Seps.one (mle_refl _)) bdk bdk (OwnL.ow ho19 rfl) bdk) Try.underlying70 (cellsAt_one rfl rfl) bdm bd (by decide) (fun _ _ h => h.sub [117, 112, 113, 114, 115, 0]) (fun v23 m23 ho23 => ?_)
 obtain ⟨A23, c23, rfl, l23, k23⟩ := ho23.slice
 simp only [maxLen] at k23
 refine VD.nil rfl ?_ rfl
 refine VO.y rfl (.nilp rfl) (VO.y rfl (.fa rfl tst72 rfl) ?_)
 refine VO.store (k := 1) 117 rfl rfl (.inr ⟨tk70, rfl⟩) rfl rfl rfl rfl rfl ?_
 refine VO.clsP 124 [117, 112, 113, 114, 115, 116] rfl (fun hg24 => (mkP_diskDisk (((burnD d).1).1) (((burnD d).1).2.1) (((burnD d).1).2.2.1) (((burnD d).1).2.2.2.1) (((burnD d).1).2.2.2.2.1) ((((burnD d).1).2.2.2.2.2.1).1) ((((burnD d).1).2.2.2.2.2.1).2.1) ((((burnD d).1).2.2.2.2.2.1).2.2.1) ((((burnD d).1).2.2.2.2.2.1).2.2.2) ((((burnD d).1).2.2.2.2.2.2) ++ [((0, d1, (b).take ((min ((b.length : Nat) : Int) 64).toNat), 0) : Ddiskstep)]) hg24 bdk bdk (OwnL.ow (Ow.ownl q11_5 rfl mnil) rfl) (OwnL.ow (Ow.ownl q11_6 rfl mnil) rfl) (OwnL.ow (Ow.ownl q11_7 rfl mnil) rfl) (OwnL.ow (Ow.ownl q11_8 rfl mnil) rfl) ho23)) (fun mc24 ho24 => ?_)
 refine VO.k9 0 1 2 7 8 12 16 19 22 (outN ?_)
 refine VC.reg ?_
 refine VO.mv (VO.mv ?_)
 obtain ⟨A25, hA25, hs25⟩ := h_b.drop 1 ((min ((b.length : Nat) : Int) 64).toNat) rfl bd
 refine VO.y rfl (.slLI ((min ((b.length : Nat) : Int) 64).toNat) A25 rfl rfl tsl25 bd hA25 bd) ?_
 refine VO.as ?_
 refine VO.kp [124, 0] [(124, mc24), (0, mout (wm W) (m0))] ?_
 refine VO.k9 0 1 2 7 8 12 16 19 22 (outBN ?_)
 have hrl26 : b.length - ((min ((b.length : Nat) : Int) 64).toNat) = (b.drop ((min ((b.length : Nat) : Int) 64).toNat)).length := by simp only [List.length_drop, List.length_take]; try omega
 rw [hrl26]
 exact outN ⟨⟨(((burnD d).1).1, ((burnD d).1).2.1, ((burnD d).1).2.2.1, ((burnD d).1).2.2.2.1, ((burnD d).1).2.2.2.2.1, (((burnD d).1).2.2.2.2.2.1), (((burnD d).1).2.2.2.2.2.2) ++ [((0, d1, (b).take ((min ((b.length : Nat) : Int) 64).toNat), 0) : Ddiskstep)]), mc24, b.drop ((min ((b.length : Nat) : Int) 64).toNat), A25, b_c - ((min ((b.length : Nat) : Int) 64).toNat), n - 1⟩, ⟨by exact write_step hp hn (by omega) (Decidable.not_not.1 ‹¬ ¬ (burnD d).2 = true›) (by omega), by (simp only [List.length_drop]; omega), by exact step_ok hok (Decidable.not_not.1 ‹¬ ¬ inF d1›) (by omega) (by omega), by exact Nat.le_trans (step_w (f := d1) (b := b) (m := (min ((b.length : Nat) : Int) 64).toNat) hok (by omega) (by omega)) hw, (Rd.relen hs25 rfl), ho24⟩, by (simp only [List.length_drop]; omega), ⟨⟨rfl, rfl, rfl, rfl, rfl, rfl, trivial⟩, fun _ h => Inv.sub (Inv.num h 124 1 rfl) [1, 0]⟩⟩
 · refine VC.exit (outE (outE (outBB (outN (VC.rs (VO.as ?_))))))
   refine VO.kp [1, 0] [(1, d_m), (0, mout (wm W) (m0))] ?_
   refine VO.k8 0 1 2 6 7 12 16 19 (VC.ret ?_)
   refine ⟨_, _, res_run (rs := [.tmp 6]) rfl (.tmp rfl .nil), fun W_ hI => out_of (l := [d_m]) hI [1] rfl rfl (mle_refl _) (fun hS_ => ?_)⟩
   dsimp only [packV]
   have hm0_ : ((dWrite d0 d1 d2).1 : DdiskDisk) = d := by first | rfl | (exact fin0_dWrite_ok)
   refine ⟨?_, ?_⟩
   rotate_left
   · rw [hm0_]; exact (Ow.up h_d (hS_.1 _ (.head _)))
   all_goals (first | rfl | (exact fin0_dWrite_ok))
theorem fin0_dCut_ok {P : Prop} (h : P := by first | (rw [cut_bad1 (by assumption)] <;> rfl) | (rw [cut_bad2 (by assumption) (.inl (by assumption))] <;> rfl) | (rw [cut_bad2 (by assumption) (.inr (.inl (by assumption)))] <;> rfl) | (rw [cut_bad2 (by assumption) (.inr (.inr (by assumption)))] <;> rfl) | (rw [cut_go (by assumption) (by assumption) (by assumption) (by assumption) (by assumption)] <;> rfl) | (rw [cut_off (by assumption) (by assumption) (by assumption) (by assumption) (by assumption)] <;> rfl)) : P := h
theorem dCut_ok (W : World) {m0 : Mem} (hm : mle (m0) (wm W)) {g0 : Nat} {d0 : DdiskDisk} (h0 : Ow (.ptr TdiskDisk) m0 [.pointer (some ⟨g0, 0, none⟩)] (g0, d0)) (d1 : Int) (h1 : inK .i64 d1) (d2 : Int) (h2 : inK .i64 d2) (e0 : okD d0) (e1 : wD d0 ≤ 1000000000000) : CallR Try.prog 72 [.pointer (some ⟨g0, 0, none⟩), .int .i64 d1, .int .i64 d2] W (m0) (fun v m' => v = .int .i64 ((dCut d0 d1 d2).2) ∧ Ow (.ptr TdiskDisk) m' [.pointer (some ⟨g0, 0, none⟩)] (g0, (dCut d0 d1 d2).1)) := by
 have h1' := h1; simp only [inK] at h1'
 have h2' := h2; simp only [inK] at h2'
 refine CallR.ofB (n := 43) hm Try.func72 rfl rfl rfl ?_
 refine VC.rs (VO.as (VO.k4 0 1 2 6 (VC.seq (VC.rs (VO.mv ?_)))))
 refine VO.call 1 rfl fnOk75 rfl rfl (fun W hW => dWrong_ok W (hW.at (i := 1) rfl) h0) (fun v1 m1 hv1 => ?_)
 obtain ⟨rfl, w1_0⟩ := hv1
 refine VO.as (VO.k5 0 1 2 6 7 (VC.rs (VO.mv (VO.y rfl (.neq rfl rfl) ?_))))
 refine VO.kp [1, 0] [(1, m1), (0, mout (wm W) (m0))] ?_
 refine VO.k6 0 1 2 6 7 11 ?_
 refine VC.cond rfl (fun hc2 => ?_) (fun hc2 => ?_)
 · refine VC.rs (VO.mv (VO.as (VO.k6 0 1 2 6 7 11 (VC.ret (outR ?_)))))
   refine ⟨_, _, res_run (rs := [.tmp 6]) rfl (.tmp rfl .nil), fun W_ hI => out_of (l := [m1]) hI [1] rfl rfl (mle_refl _) (fun hS_ => ?_)⟩
   dsimp only [packV]
   have hm0_ : ((dCut d0 d1 d2).1 : DdiskDisk) = d0 := by first | rfl | (exact fin0_dCut_ok)
   refine ⟨?_, ?_⟩
   rotate_left
   · rw [hm0_]; exact (Ow.up w1_0 (hS_.1 _ (.head _)))
   all_goals (first | rfl | (exact fin0_dCut_ok))
 refine VC.skip (outN (VC.seq (VC.rs (VO.mv ?_))))
 refine VO.callN 103 rfl fnOk74 rfl (fun W hW => dIs_ok W d1 bdk) (fun v3 m3 hv3 => ?_)
 subst hv3
 refine VO.y rfl (.notD rfl) (VO.mv ?_)
 refine VO.dec (t := 16) rfl (fun hc4 => ?_) (fun hc4 => ?_)
 · refine VO.gN (VO.gN (VO.y rfl (.pT rfl rfl) (VO.mv (VO.gN (VO.gN (VO.gN (VO.gN (VO.gN (VO.gN (VO.y rfl (.pT rfl rfl) (VO.k7 0 1 2 6 7 11 27 ?_)))))))))))
   refine VC.condT rfl (VC.rs (VO.as (VO.k7 0 1 2 6 7 11 27 (VC.ret (outR ?_)))))
   refine ⟨_, _, res_run (rs := [.tmp 6]) rfl (.tmp rfl .nil), fun W_ hI => out_of (l := [m1]) hI [1] rfl rfl (mle_refl _) (fun hS_ => ?_)⟩
   dsimp only [packV]
   have hm0_ : ((dCut d0 d1 d2).1 : DdiskDisk) = d0 := by first | rfl | (exact fin0_dCut_ok)
   refine ⟨?_, ?_⟩
   rotate_left
   · rw [hm0_]; exact (Ow.up w1_0 (hS_.1 _ (.head _)))
   all_goals (first | rfl | (exact fin0_dCut_ok))
 refine VO.gy rfl ⟨_, rfl, rfl⟩ (.mv rfl) (VO.gy rfl ⟨_, rfl, rfl⟩ (.lss rfl rfl) (VO.y rfl (.pF rfl rfl) (VO.mv ?_)))
 refine VO.dec (t := 20) rfl (fun hc5 => ?_) (fun hc5 => ?_)
 · refine VO.gN (VO.gN (VO.gN (VO.gN (VO.gN (VO.gN (VO.y rfl (.pT rfl rfl) (VO.k7 0 1 2 6 7 11 27 (VC.condT rfl (VC.rs (VO.as (VO.k7 0 1 2 6 7 11 27 ?_)))))))))))
   refine VC.ret (outR ?_)
   refine ⟨_, _, res_run (rs := [.tmp 6]) rfl (.tmp rfl .nil), fun W_ hI => out_of (l := [m1]) hI [1] rfl rfl (mle_refl _) (fun hS_ => ?_)⟩
   dsimp only [packV]
   have hm0_ : ((dCut d0 d1 d2).1 : DdiskDisk) = d0 := by first | rfl | (exact fin0_dCut_ok)
   refine ⟨?_, ?_⟩
   rotate_left
   · rw [hm0_]; exact (Ow.up w1_0 (hS_.1 _ (.head _)))
   all_goals (first | rfl | (exact fin0_dCut_ok))
 refine VO.gy rfl ⟨_, rfl, rfl⟩ (.mv rfl) (VO.gy rfl ⟨_, rfl, rfl⟩ (.mv rfl) (VO.gy rfl ⟨_, rfl, rfl⟩ (.mv rfl) ?_))
 refine VO.gcall 1 rfl ⟨_, rfl, rfl⟩ fnOk104 rfl rfl (fun W hW => dHeld_ok W (hW.at (i := 1) rfl) w1_0 d1 bdk (by assumption) bd (by first | assumption | (apply Decidable.not_not.1; assumption))) (fun v6 m6 hv6 => ?_)
 obtain ⟨s6_0, p6_0, p6_1, rfl, hS6, f6_0, w6_0⟩ := hv6
 refine VO.inv _ (fun _ h => h.parts (i := 1) rfl hS6 [107, 108]) ?_
 have hfa9 := heldB_size d0.2.2.2.2.2.1 d0.2.2.2.2.2.2 d1
 obtain ⟨A6_0, c6_0, eq6_0, l6_0, k6_0⟩ := f6_0.slice
 subst eq6_0
 simp only [maxLen] at k6_0
 refine VO.gy rfl ⟨_, rfl, rfl⟩ (.lenS rfl tsl25) ?_
 refine VO.gy rfl ⟨_, rfl, rfl⟩ (.gtr rfl rfl) (VO.y rfl (.pF rfl rfl) (VO.k7 0 1 2 6 7 11 27 ?_))
 refine VC.cond rfl (fun hc10 => ?_) (fun hc10 => ?_)
 · refine VC.rs (VO.as (VO.k7 0 1 2 6 7 11 27 (VC.ret (outR ?_))))
   refine ⟨_, _, res_run (rs := [.tmp 6]) rfl (.tmp rfl .nil), fun W_ hI => out_of (l := [p6_1]) hI [108] rfl rfl (mle_refl _) (fun hS_ => ?_)⟩
   dsimp only [packV]
   have hm0_ : ((dCut d0 d1 d2).1 : DdiskDisk) = d0 := by first | rfl | (exact fin0_dCut_ok)
   refine ⟨?_, ?_⟩
   rotate_left
   · rw [hm0_]; exact (Ow.up w6_0 (hS_.1 _ (.head _)))
   all_goals (first | rfl | (exact fin0_dCut_ok))
 refine VC.skip (outN (VC.seq (VC.rs (VO.mv ?_))))
 refine VO.call 108 rfl fnOk76 rfl rfl (fun W hW => dBurn_ok W (hW.at (i := 108) rfl) w6_0 (by assumption) bd) (fun v11 m11 hv11 => ?_)
 obtain ⟨rfl, w11_0⟩ := hv11
 have hfa12 := (burn_ok (show okD d0 by assumption))
 have hfa13 := (burn_w (show okD d0 by assumption))
 have hfa14 := (len_w (burnD d0).1)
 refine VO.y rfl (.notD rfl) (VO.k8 0 1 2 6 7 11 27 30 ?_)
 refine VC.cond rfl (fun hc15 => ?_) (fun hc15 => ?_)
 · refine VC.rs (VO.as ?_)
   refine VO.kp [108, 0] [(108, m11), (0, mout (wm W) (m0))] ?_
   refine VO.k8 0 1 2 6 7 11 27 30 (VC.ret (outR ?_))
   refine ⟨_, _, res_run (rs := [.tmp 6]) rfl (.tmp rfl .nil), fun W_ hI => out_of (l := [m11]) hI [108] rfl rfl (mle_refl _) (fun hS_ => ?_)⟩
   dsimp only [packV]
   have hm0_ : ((dCut d0 d1 d2).1 : DdiskDisk) = (burnD d0).1 := by first | rfl | (exact fin0_dCut_ok)
   refine ⟨?_, ?_⟩
   rotate_left
   · rw [hm0_]; exact (Ow.up w11_0 (hS_.1 _ (.head _)))
   all_goals (first | rfl | (exact fin0_dCut_ok))
 · refine VC.skip (outN (VC.rs (VO.mv (VO.mv (VO.y rfl (.nilp rfl) (VO.y rfl (.fa rfl tst72 rfl) ?_))))))
   obtain ⟨q16_E, q16_A5, q16_c5, q16_A6, q16_c6, q16_A7, q16_c7, q16_A8, q16_c8, q16_A9, q16_c9, q16_n5, q16_n6, q16_n7, q16_n8, q16_n9, _, q16_S, q16_3, q16_4, q16_5, q16_6, q16_7, q16_8, q16_9⟩ := openP_diskDisk (x0 := ((burnD d0).1).1) (x1 := ((burnD d0).1).2.1) (x2 := ((burnD d0).1).2.2.1) (x3 := ((burnD d0).1).2.2.2.1) (x4 := ((burnD d0).1).2.2.2.2.1) (x5 := (((burnD d0).1).2.2.2.2.2.1).1) (x6 := (((burnD d0).1).2.2.2.2.2.1).2.1) (x7 := (((burnD d0).1).2.2.2.2.2.1).2.2.1) (x8 := (((burnD d0).1).2.2.2.2.2.1).2.2.2) (x9 := ((burnD d0).1).2.2.2.2.2.2) w11_0
   simp only [inK] at q16_3 q16_4
   have q16_r5 := q16_5.rm
   have q16_r6 := q16_6.rm
   have q16_r7 := q16_7.rm
   have q16_r8 := q16_8.rm
   have q16_r9 := q16_9.rm
   refine VO.inv _ (fun _ h => h.parts (i := 108) rfl q16_S [122, 117, 118, 119, 120, 121]) ?_
   refine VO.y rfl (.ld1 122 rfl tk70 rfl (cellsAt_one rfl rfl)) (VO.mv (VO.mv ?_))
   refine VO.y rfl (.bst (cs := [.int .i64 (1), .int .i64 (d1), .slice none (0) (0), .int .i64 (d2)]) rfl tst101 tz101 rfl) ?_
   refine VO.bsl (cs := [Value.int .i64 (1), Value.int .i64 (d1), Value.slice none (0) (0), Value.int .i64 (d2)]) 124 rfl rfl tsl70 tz101 rfl rfl (fun g23 => ?_)
   refine VO.inv ((126, mnil) :: _) (fun _ h => h.nilc 126) ?_
   refine VO.appO (e := Tdiskstep) 121 126 124 rfl rfl rfl tsl70 tz101 rfl rfl rfl rfl q16_9 (mkO_diskstep 1 d1 [] d2 (Seps.nilAt 0 (Seps.nil _)) bdk bdk (Ow.nil _ _) bdk) Try.underlying70 (cellsAt_one rfl rfl) bdm bd (by decide) (fun v25 m25 ho25 => ?_)
   obtain ⟨A25, c25, rfl, l25, k25⟩ := ho25.slice
   simp only [maxLen] at k25
   refine VO.y rfl (.nilp rfl) (VO.y rfl (.fa rfl tst72 rfl) ?_)
   refine VO.store (k := 1) 122 rfl rfl (.inr ⟨tk70, rfl⟩) rfl rfl rfl rfl rfl ?_
   refine VO.clsP 127 [122, 117, 118, 119, 120, 121] rfl (fun hg27 => (mkP_diskDisk (((burnD d0).1).1) (((burnD d0).1).2.1) (((burnD d0).1).2.2.1) (((burnD d0).1).2.2.2.1) (((burnD d0).1).2.2.2.2.1) ((((burnD d0).1).2.2.2.2.2.1).1) ((((burnD d0).1).2.2.2.2.2.1).2.1) ((((burnD d0).1).2.2.2.2.2.1).2.2.1) ((((burnD d0).1).2.2.2.2.2.1).2.2.2) ((((burnD d0).1).2.2.2.2.2.2) ++ [((1, d1, [], d2) : Ddiskstep)]) hg27 bdk bdk (OwnL.ow (Ow.ownl q16_5 rfl mnil) rfl) (OwnL.ow (Ow.ownl q16_6 rfl mnil) rfl) (OwnL.ow (Ow.ownl q16_7 rfl mnil) rfl) (OwnL.ow (Ow.ownl q16_8 rfl mnil) rfl) ho25)) (fun mc27 ho27 => ?_)
   refine VO.kp [127, 0] [(127, mc27), (0, mout (wm W) (m0))] ?_
   refine VO.k8 0 1 2 6 7 11 27 30 (VC.rs (VO.as (VO.k8 0 1 2 6 7 11 27 30 (VC.ret ?_))))
   refine ⟨_, _, res_run (rs := [.tmp 6]) rfl (.tmp rfl .nil), fun W_ hI => out_of (l := [mc27]) hI [127] rfl rfl (mle_refl _) (fun hS_ => ?_)⟩
   dsimp only [packV]
   have hm0_ : ((dCut d0 d1 d2).1 : DdiskDisk) = (((burnD d0).1).1, ((burnD d0).1).2.1, ((burnD d0).1).2.2.1, ((burnD d0).1).2.2.2.1, ((burnD d0).1).2.2.2.2.1, (((burnD d0).1).2.2.2.2.2.1), (((burnD d0).1).2.2.2.2.2.2) ++ [((1, d1, [], d2) : Ddiskstep)]) := by first | rfl | (exact fin0_dCut_ok)
   refine ⟨?_, ?_⟩
   rotate_left
   · rw [hm0_]; exact (Ow.up ho27 (hS_.1 _ (.head _)))
   all_goals (first | rfl | (exact fin0_dCut_ok))
theorem dSync_ok (W : World) {m0 : Mem} (hm : mle (m0) (wm W)) {g0 : Nat} {d0 : DdiskDisk} (h0 : Ow (.ptr TdiskDisk) m0 [.pointer (some ⟨g0, 0, none⟩)] (g0, d0)) (e0 : okD d0) (e1 : wD d0 ≤ 1000000000000) : CallR Try.prog 37 [.pointer (some ⟨g0, 0, none⟩)] W (m0) (fun v m' => v = .int .i64 ((dSync d0).2) ∧ Ow (.ptr TdiskDisk) m' [.pointer (some ⟨g0, 0, none⟩)] (g0, (dSync d0).1)) := by
 refine CallR.ofB (n := 19) hm Try.func37 rfl rfl rfl ?_
 refine VC.rs (VO.as (VO.k2 0 2 (VC.seq (VC.rs (VO.mv ?_)))))
 refine VO.call 1 rfl fnOk75 rfl rfl (fun W hW => dWrong_ok W (hW.at (i := 1) rfl) h0) (fun v1 m1 hv1 => ?_)
 obtain ⟨rfl, w1_0⟩ := hv1
 refine VO.as (VO.k3 0 2 3 (VC.rs (VO.mv (VO.y rfl (.neq rfl rfl) ?_))))
 refine VO.kp [1, 0] [(1, m1), (0, mout (wm W) (m0))] ?_
 refine VO.k4 0 2 3 7 ?_
 refine VC.cond rfl (fun hc2 => ?_) (fun hc2 => ?_)
 · refine VC.rs (VO.mv (VO.as (VO.k4 0 2 3 7 (VC.ret (outR ?_)))))
   refine ⟨_, _, res_run (rs := [.tmp 2]) rfl (.tmp rfl .nil), fun W_ hI => out_of (l := [m1]) hI [1] rfl rfl (mle_refl _) (fun hS_ => ?_)⟩
   dsimp only [packV]
   have hm0_ : ((dSync d0).1 : DdiskDisk) = d0 := by first | rfl | (first | (rw [sync_bad (by assumption)] <;> rfl) | (rw [sync_off (by assumption) (by assumption)] <;> rfl) | (rw [sync_go (by assumption) (by assumption)] <;> rfl))
   refine ⟨?_, ?_⟩
   rotate_left
   · rw [hm0_]; exact (Ow.up w1_0 (hS_.1 _ (.head _)))
   all_goals (first | rfl | (first | (rw [sync_bad (by assumption)] <;> rfl) | (rw [sync_off (by assumption) (by assumption)] <;> rfl) | (rw [sync_go (by assumption) (by assumption)] <;> rfl)))
 refine VC.skip (outN (VC.seq (VC.rs (VO.mv ?_))))
 refine VO.call 1 rfl fnOk76 rfl rfl (fun W hW => dBurn_ok W (hW.at (i := 1) rfl) w1_0 (by assumption) bd) (fun v3 m3 hv3 => ?_)
 obtain ⟨rfl, w3_0⟩ := hv3
 have hfa4 := (burn_ok (show okD d0 by assumption))
 have hfa5 := (burn_w (show okD d0 by assumption))
 have hfa6 := (len_w (burnD d0).1)
 refine VO.y rfl (.notD rfl) (VO.k5 0 2 3 7 11 ?_)
 refine VC.cond rfl (fun hc7 => ?_) (fun hc7 => ?_)
 · refine VC.rs (VO.as (VO.k5 0 2 3 7 11 (VC.ret (outR ?_))))
   refine ⟨_, _, res_run (rs := [.tmp 2]) rfl (.tmp rfl .nil), fun W_ hI => out_of (l := [m3]) hI [1] rfl rfl (mle_refl _) (fun hS_ => ?_)⟩
   dsimp only [packV]
   have hm0_ : ((dSync d0).1 : DdiskDisk) = (burnD d0).1 := by first | rfl | (first | (rw [sync_bad (by assumption)] <;> rfl) | (rw [sync_off (by assumption) (by assumption)] <;> rfl) | (rw [sync_go (by assumption) (by assumption)] <;> rfl))
   refine ⟨?_, ?_⟩
   rotate_left
   · rw [hm0_]; exact (Ow.up w3_0 (hS_.1 _ (.head _)))
   all_goals (first | rfl | (first | (rw [sync_bad (by assumption)] <;> rfl) | (rw [sync_off (by assumption) (by assumption)] <;> rfl) | (rw [sync_go (by assumption) (by assumption)] <;> rfl)))
 · refine VC.skip (outN (VC.rs (VO.mv (VO.mv (VO.y rfl (.nilp rfl) (VO.y rfl (.fa rfl tst72 rfl) ?_))))))
   obtain ⟨q8_E, q8_A5, q8_c5, q8_A6, q8_c6, q8_A7, q8_c7, q8_A8, q8_c8, q8_A9, q8_c9, q8_n5, q8_n6, q8_n7, q8_n8, q8_n9, _, q8_S, q8_3, q8_4, q8_5, q8_6, q8_7, q8_8, q8_9⟩ := openP_diskDisk (x0 := ((burnD d0).1).1) (x1 := ((burnD d0).1).2.1) (x2 := ((burnD d0).1).2.2.1) (x3 := ((burnD d0).1).2.2.2.1) (x4 := ((burnD d0).1).2.2.2.2.1) (x5 := (((burnD d0).1).2.2.2.2.2.1).1) (x6 := (((burnD d0).1).2.2.2.2.2.1).2.1) (x7 := (((burnD d0).1).2.2.2.2.2.1).2.2.1) (x8 := (((burnD d0).1).2.2.2.2.2.1).2.2.2) (x9 := ((burnD d0).1).2.2.2.2.2.2) w3_0
   simp only [inK] at q8_3 q8_4
   have q8_r5 := q8_5.rm
   have q8_r6 := q8_6.rm
   have q8_r7 := q8_7.rm
   have q8_r8 := q8_8.rm
   have q8_r9 := q8_9.rm
   refine VO.inv _ (fun _ h => h.parts (i := 1) rfl q8_S [114, 109, 110, 111, 112, 113]) ?_
   refine VO.y rfl (.ld1 114 rfl tk70 rfl (cellsAt_one rfl rfl)) ?_
   refine VO.y rfl (.lenS rfl tsl70) ?_
   refine VO.clsP 116 [114, 109, 110, 111, 112, 113] rfl (fun hg16 => (show Ow (.ptr TdiskDisk) _ _ (_, ((burnD d0).1)) from (mkP_diskDisk (((burnD d0).1).1) (((burnD d0).1).2.1) (((burnD d0).1).2.2.1) (((burnD d0).1).2.2.2.1) (((burnD d0).1).2.2.2.2.1) ((((burnD d0).1).2.2.2.2.2.1).1) ((((burnD d0).1).2.2.2.2.2.1).2.1) ((((burnD d0).1).2.2.2.2.2.1).2.2.1) ((((burnD d0).1).2.2.2.2.2.1).2.2.2) (((burnD d0).1).2.2.2.2.2.2) hg16 bdk bdk (OwnL.ow (Ow.ownl q8_5 rfl mnil) rfl) (OwnL.ow (Ow.ownl q8_6 rfl mnil) rfl) (OwnL.ow (Ow.ownl q8_7 rfl mnil) rfl) (OwnL.ow (Ow.ownl q8_8 rfl mnil) rfl) q8_9))) (fun mc16 ho16 => ?_)
   refine VO.call 116 rfl fnOk79 rfl rfl (fun W hW => dSettle_ok W (hW.at (i := 116) rfl) ho16 (((((burnD d0).1).2.2.2.2.2.2).length : Nat) : Int) bdk (by assumption) bd bd) (fun v15 m15 hv15 => ?_)
   obtain ⟨rfl, w15_0⟩ := hv15
   have hfa17 := (settle_ok (((((burnD d0).1).2.2.2.2.2.2).length : Nat) : Int).toNat (show okD ((burnD d0).1) by assumption))
   have hfa18 := (settle_w ((burnD d0).1) (((((burnD d0).1).2.2.2.2.2.2).length : Nat) : Int).toNat)
   refine VO.k5 0 2 3 7 11 (VC.rs (VO.as ?_))
   refine VO.kp [116, 0] [(116, m15), (0, mout (wm W) (m0))] ?_
   refine VO.k5 0 2 3 7 11 (VC.ret ?_)
   refine ⟨_, _, res_run (rs := [.tmp 2]) rfl (.tmp rfl .nil), fun W_ hI => out_of (l := [m15]) hI [116] rfl rfl (mle_refl _) (fun hS_ => ?_)⟩
   dsimp only [packV]
   have hm0_ : ((dSync d0).1 : DdiskDisk) = settleD ((burnD d0).1) (((((burnD d0).1).2.2.2.2.2.2).length : Nat) : Int).toNat := by first | rfl | (first | (rw [sync_bad (by assumption)] <;> rfl) | (rw [sync_off (by assumption) (by assumption)] <;> rfl) | (rw [sync_go (by assumption) (by assumption)] <;> rfl))
   refine ⟨?_, ?_⟩
   rotate_left
   · rw [hm0_]; exact (Ow.up w15_0 (hS_.1 _ (.head _)))
   all_goals (first | rfl | (first | (rw [sync_bad (by assumption)] <;> rfl) | (rw [sync_off (by assumption) (by assumption)] <;> rfl) | (rw [sync_go (by assumption) (by assumption)] <;> rfl)))
theorem dRead_ok (W : World) {m0 : Mem} (hm : mle (m0) (wm W)) {g0 : Nat} {d0 : DdiskDisk} (h0 : Ow (.ptr TdiskDisk) m0 [.pointer (some ⟨g0, 0, none⟩)] (g0, d0)) (d1 : Int) (h1 : inK .i64 d1) (e0 : okD d0) (e1 : wD d0 ≤ 1000000000000) : CallR Try.prog 71 [.pointer (some ⟨g0, 0, none⟩), .int .i64 d1] W (m0) (fun v m' => ∃ (s0 : Value), ∃ (p0 : Mem), ∃ (p1 : Mem), v = .tuple #[s0, .int .i64 ((dRead d0 d1).2)] ∧ Seps m' [p0, p1] ∧ Ow (.sl .byte) p0 [s0] ((dRead d0 d1).1) ∧ Ow (.ptr TdiskDisk) p1 [.pointer (some ⟨g0, 0, none⟩)] (g0, d0)) := by
 have h1' := h1; simp only [inK] at h1'
 refine CallR.ofB (n := 18) hm Try.func71 rfl rfl rfl ?_
 refine VC.rs (VO.as (VO.as (VO.k4 0 1 4 5 (VC.seq (VC.rs (VO.mv ?_))))))
 refine VO.call 1 rfl fnOk75 rfl rfl (fun W hW => dWrong_ok W (hW.at (i := 1) rfl) h0) (fun v1 m1 hv1 => ?_)
 obtain ⟨rfl, w1_0⟩ := hv1
 refine VO.as (VO.k5 0 1 4 5 6 (VC.rs (VO.mv (VO.y rfl (.neq rfl rfl) ?_))))
 refine VO.kp [1, 0] [(1, m1), (0, mout (wm W) (m0))] ?_
 refine VO.k6 0 1 4 5 6 10 ?_
 refine VC.cond rfl (fun hc2 => ?_) (fun hc2 => ?_)
 · refine VC.rs (VO.mv (VO.as (VO.as (VO.k6 0 1 4 5 6 10 (VC.ret (outR ?_))))))
   refine ⟨_, _, res_run (rs := [.tmp 4, .tmp 5]) rfl (.tmp rfl (.tmp rfl .nil)), fun W_ hI => out_of (l := [m1]) hI [1] rfl rfl (mle_refl _) (fun hS_ => ?_)⟩
   dsimp only [packV]
   have he0 : ((dRead d0 d1).1 : Ty.Den (.sl .byte)) = [] := by first | rfl | (first | rfl | (simp [dRead, *]; done))
   have hm0_ : (d0 : DdiskDisk) = d0 := by first | rfl | (first | rfl | (simp [dRead, *]; done))
   refine ⟨Value.slice none (0) (0), muns [], muns [m1], ?_, ?_, ?_, ?_⟩
   rotate_left
   · exact Seps.grp (ls := [[], [m1]]) hS_
   · rw [he0]; exact (Ow.nil _ _)
   · rw [hm0_]; exact (Ow.up w1_0 ((Seps.self hS_ (List.Sublist.cons_cons _ List.Sublist.slnil)).1 _ (.head _)))
   all_goals (first | rfl | (first | rfl | (simp [dRead, *]; done)))
 refine VC.skip (outN (VC.seq (VC.rs (VO.mv ?_))))
 refine VO.callN 103 rfl fnOk74 rfl (fun W hW => dIs_ok W d1 bdk) (fun v3 m3 hv3 => ?_)
 subst hv3
 refine VO.y rfl (.notD rfl) (VO.k7 0 1 4 5 6 10 14 ?_)
 refine VC.cond rfl (fun hc4 => ?_) (fun hc4 => ?_)
 · refine VC.rs (VO.as (VO.as (VO.k7 0 1 4 5 6 10 14 (VC.ret (outR ?_)))))
   refine ⟨_, _, res_run (rs := [.tmp 4, .tmp 5]) rfl (.tmp rfl (.tmp rfl .nil)), fun W_ hI => out_of (l := [m1]) hI [1] rfl rfl (mle_refl _) (fun hS_ => ?_)⟩
   dsimp only [packV]
   have he0 : ((dRead d0 d1).1 : Ty.Den (.sl .byte)) = [] := by first | rfl | (first | rfl | (simp [dRead, *]; done))
   have hm0_ : (d0 : DdiskDisk) = d0 := by first | rfl | (first | rfl | (simp [dRead, *]; done))
   refine ⟨Value.slice none (0) (0), muns [], muns [m1], ?_, ?_, ?_, ?_⟩
   rotate_left
   · exact Seps.grp (ls := [[], [m1]]) hS_
   · rw [he0]; exact (Ow.nil _ _)
   · rw [hm0_]; exact (Ow.up w1_0 ((Seps.self hS_ (List.Sublist.cons_cons _ List.Sublist.slnil)).1 _ (.head _)))
   all_goals (first | rfl | (first | rfl | (simp [dRead, *]; done)))
 · refine VC.skip (outN (VC.rs (VO.mv (VO.mv ?_))))
   refine VO.call 1 rfl fnOk104 rfl rfl (fun W hW => dHeld_ok W (hW.at (i := 1) rfl) w1_0 d1 bdk (by assumption) bd (by first | assumption | (apply Decidable.not_not.1; assumption))) (fun v5 m5 hv5 => ?_)
   obtain ⟨s5_0, p5_0, p5_1, rfl, hS5, f5_0, w5_0⟩ := hv5
   refine VO.inv _ (fun _ h => h.parts (i := 1) rfl hS5 [106, 107]) ?_
   have hfa8 := heldB_size d0.2.2.2.2.2.1 d0.2.2.2.2.2.2 d1
   obtain ⟨A5_0, c5_0, eq5_0, l5_0, k5_0⟩ := f5_0.slice
   subst eq5_0
   simp only [maxLen] at k5_0
   refine VO.as (VO.as (VO.k7 0 1 4 5 6 10 14 (VC.ret ?_)))
   refine ⟨_, _, res_run (rs := [.tmp 4, .tmp 5]) rfl (.tmp rfl (.tmp rfl .nil)), fun W_ hI => out_of (l := [p5_0, p5_1]) hI [106, 107] rfl rfl (mle_refl _) (fun hS_ => ?_)⟩
   dsimp only [packV]
   have he0 : ((dRead d0 d1).1 : Ty.Den (.sl .byte)) = heldB d0.2.2.2.2.2.1 d0.2.2.2.2.2.2 d1 := by first | rfl | (first | rfl | (simp [dRead, *]; done))
   have hm0_ : (d0 : DdiskDisk) = d0 := by first | rfl | (first | rfl | (simp [dRead, *]; done))
   refine ⟨Value.slice A5_0 ((heldB d0.2.2.2.2.2.1 d0.2.2.2.2.2.2 d1).length) (c5_0), muns [p5_0], muns [p5_1], ?_, ?_, ?_, ?_⟩
   rotate_left
   · exact Seps.grp (ls := [[p5_0], [p5_1]]) hS_
   · rw [he0]; exact (Ow.up (OwnL.ow (Ow.ownl f5_0 rfl mnil) rfl) ((Seps.self hS_ (List.Sublist.cons_cons _ (List.Sublist.cons _ List.Sublist.slnil))).1 _ (.head _)))
   · rw [hm0_]; exact (Ow.up w5_0 ((Seps.self hS_ (List.Sublist.cons _ (List.Sublist.cons_cons _ List.Sublist.slnil))).1 _ (.head _)))
   all_goals (first | rfl | (first | rfl | (simp [dRead, *]; done)))
theorem dFuse_ok (W : World) {m0 : Mem} (hm : mle (m0) (wm W)) {g0 : Nat} {d0 : DdiskDisk} (h0 : Ow (.ptr TdiskDisk) m0 [.pointer (some ⟨g0, 0, none⟩)] (g0, d0)) (d1 : Int) (h1 : inK .i64 d1) (e0 : okD d0) : CallR Try.prog 39 [.pointer (some ⟨g0, 0, none⟩), .int .i64 d1] W (m0) (fun v m' => v = .int .i64 ((dFuse d0 d1).2) ∧ Ow (.ptr TdiskDisk) m' [.pointer (some ⟨g0, 0, none⟩)] (g0, (dFuse d0 d1).1)) := by
 have h1' := h1; simp only [inK] at h1'
 refine CallR.ofB (n := 20) hm Try.func39 rfl rfl rfl ?_
 refine VC.rs (VO.as (VO.k3 0 1 4 (VC.seq (VC.rs (VO.mv ?_)))))
 refine VO.call 1 rfl fnOk75 rfl rfl (fun W hW => dWrong_ok W (hW.at (i := 1) rfl) h0) (fun v1 m1 hv1 => ?_)
 obtain ⟨rfl, w1_0⟩ := hv1
 refine VO.as (VO.k4 0 1 4 5 (VC.rs (VO.mv (VO.y rfl (.neq rfl rfl) ?_))))
 refine VO.kp [1, 0] [(1, m1), (0, mout (wm W) (m0))] ?_
 refine VO.k5 0 1 4 5 9 ?_
 refine VC.cond rfl (fun hc2 => ?_) (fun hc2 => ?_)
 · refine VC.rs (VO.mv (VO.as (VO.k5 0 1 4 5 9 (VC.ret (outR ?_)))))
   refine ⟨_, _, res_run (rs := [.tmp 4]) rfl (.tmp rfl .nil), fun W_ hI => out_of (l := [m1]) hI [1] rfl rfl (mle_refl _) (fun hS_ => ?_)⟩
   dsimp only [packV]
   have hm0_ : ((dFuse d0 d1).1 : DdiskDisk) = d0 := by first | rfl | (first | rfl | (simp [dFuse, *]; done))
   refine ⟨?_, ?_⟩
   rotate_left
   · rw [hm0_]; exact (Ow.up w1_0 (hS_.1 _ (.head _)))
   all_goals (first | rfl | (first | rfl | (simp [dFuse, *]; done)))
 refine VC.skip (outN (VC.seq (VC.rs (VO.mv (VO.y rfl (.lss rfl rfl) (VO.k6 0 1 4 5 9 12 ?_))))))
 refine VC.cond rfl (fun hc3 => ?_) (fun hc3 => ?_)
 · refine VC.rs (VO.as (VO.k6 0 1 4 5 9 12 (VC.ret (outR ?_))))
   refine ⟨_, _, res_run (rs := [.tmp 4]) rfl (.tmp rfl .nil), fun W_ hI => out_of (l := [m1]) hI [1] rfl rfl (mle_refl _) (fun hS_ => ?_)⟩
   dsimp only [packV]
   have hm0_ : ((dFuse d0 d1).1 : DdiskDisk) = d0 := by first | rfl | (first | rfl | (simp [dFuse, *]; done))
   refine ⟨?_, ?_⟩
   rotate_left
   · rw [hm0_]; exact (Ow.up w1_0 (hS_.1 _ (.head _)))
   all_goals (first | rfl | (first | rfl | (simp [dFuse, *]; done)))
 · refine VC.skip (outN (VC.rs (VO.mv (VO.mv (VO.mv (VO.y rfl (.nilp rfl) (VO.y rfl (.fa rfl tst72 rfl) ?_)))))))
   obtain ⟨q4_E, q4_A5, q4_c5, q4_A6, q4_c6, q4_A7, q4_c7, q4_A8, q4_c8, q4_A9, q4_c9, q4_n5, q4_n6, q4_n7, q4_n8, q4_n9, _, q4_S, q4_3, q4_4, q4_5, q4_6, q4_7, q4_8, q4_9⟩ := openP_diskDisk (x0 := d0.1) (x1 := d0.2.1) (x2 := d0.2.2.1) (x3 := d0.2.2.2.1) (x4 := d0.2.2.2.2.1) (x5 := d0.2.2.2.2.2.1.1) (x6 := d0.2.2.2.2.2.1.2.1) (x7 := d0.2.2.2.2.2.1.2.2.1) (x8 := d0.2.2.2.2.2.1.2.2.2) (x9 := d0.2.2.2.2.2.2) w1_0
   simp only [inK] at q4_3 q4_4
   have q4_r5 := q4_5.rm
   have q4_r6 := q4_6.rm
   have q4_r7 := q4_7.rm
   have q4_r8 := q4_8.rm
   have q4_r9 := q4_9.rm
   refine VO.inv _ (fun _ h => h.parts (i := 1) rfl q4_S [110, 105, 106, 107, 108, 109]) ?_
   refine VO.store (k := 1) 110 rfl rfl (.inr ⟨tk4, rfl⟩) rfl rfl rfl rfl rfl ?_
   refine VO.y rfl (.nilp rfl) (VO.y rfl (.fa rfl tst72 rfl) ?_)
   refine VO.store (k := 1) 110 rfl rfl (.inr ⟨tk3, rfl⟩) rfl rfl rfl rfl rfl ?_
   refine VO.clsP 111 [110, 105, 106, 107, 108, 109] rfl (fun hg11 => (mkP_diskDisk d0.1 d0.2.1 true d1 d0.2.2.2.2.1 d0.2.2.2.2.2.1.1 d0.2.2.2.2.2.1.2.1 d0.2.2.2.2.2.1.2.2.1 d0.2.2.2.2.2.1.2.2.2 d0.2.2.2.2.2.2 hg11 bdk bdk (OwnL.ow (Ow.ownl q4_5 rfl mnil) rfl) (OwnL.ow (Ow.ownl q4_6 rfl mnil) rfl) (OwnL.ow (Ow.ownl q4_7 rfl mnil) rfl) (OwnL.ow (Ow.ownl q4_8 rfl mnil) rfl) q4_9)) (fun mc11 ho11 => ?_)
   refine VO.k6 0 1 4 5 9 12 (VC.rs (VO.as ?_))
   refine VO.kp [111, 0] [(111, mc11), (0, mout (wm W) (m0))] ?_
   refine VO.k6 0 1 4 5 9 12 (VC.ret ?_)
   refine ⟨_, _, res_run (rs := [.tmp 4]) rfl (.tmp rfl .nil), fun W_ hI => out_of (l := [mc11]) hI [111] rfl rfl (mle_refl _) (fun hS_ => ?_)⟩
   dsimp only [packV]
   have hm0_ : ((dFuse d0 d1).1 : DdiskDisk) = (d0.1, d0.2.1, true, d1, d0.2.2.2.2) := by first | rfl | (first | rfl | (simp [dFuse, *]; done))
   refine ⟨?_, ?_⟩
   rotate_left
   · rw [hm0_]; exact (Ow.up ho11 (hS_.1 _ (.head _)))
   all_goals (first | rfl | (first | rfl | (simp [dFuse, *]; done)))
theorem dPull_ok (W : World) {m0 : Mem} (hm : mle (m0) (wm W)) {g0 : Nat} {d0 : DdiskDisk} (h0 : Ow (.ptr TdiskDisk) m0 [.pointer (some ⟨g0, 0, none⟩)] (g0, d0)) (e0 : okD d0) : CallR Try.prog 46 [.pointer (some ⟨g0, 0, none⟩)] W (m0) (fun v m' => v = .int .i64 ((dPull d0).2) ∧ Ow (.ptr TdiskDisk) m' [.pointer (some ⟨g0, 0, none⟩)] (g0, (dPull d0).1)) := by
 refine CallR.ofB (n := 12) hm Try.func46 rfl rfl rfl ?_
 refine VC.rs (VO.as (VO.k2 0 2 (VC.seq (VC.rs (VO.mv ?_)))))
 refine VO.call 1 rfl fnOk75 rfl rfl (fun W hW => dWrong_ok W (hW.at (i := 1) rfl) h0) (fun v1 m1 hv1 => ?_)
 obtain ⟨rfl, w1_0⟩ := hv1
 refine VO.as (VO.k3 0 2 3 (VC.rs (VO.mv (VO.y rfl (.neq rfl rfl) ?_))))
 refine VO.kp [1, 0] [(1, m1), (0, mout (wm W) (m0))] ?_
 refine VO.k4 0 2 3 7 ?_
 refine VC.cond rfl (fun hc2 => ?_) (fun hc2 => ?_)
 · refine VC.rs (VO.mv (VO.as (VO.k4 0 2 3 7 (VC.ret (outR ?_)))))
   refine ⟨_, _, res_run (rs := [.tmp 2]) rfl (.tmp rfl .nil), fun W_ hI => out_of (l := [m1]) hI [1] rfl rfl (mle_refl _) (fun hS_ => ?_)⟩
   dsimp only [packV]
   have hm0_ : ((dPull d0).1 : DdiskDisk) = d0 := by first | rfl | (first | rfl | (simp [dPull, *]; done))
   refine ⟨?_, ?_⟩
   rotate_left
   · rw [hm0_]; exact (Ow.up w1_0 (hS_.1 _ (.head _)))
   all_goals (first | rfl | (first | rfl | (simp [dPull, *]; done)))
 · refine VC.skip (outN (VC.rs (VO.mv (VO.y rfl (.nilp rfl) (VO.y rfl (.fa rfl tst72 rfl) ?_)))))
   obtain ⟨q3_E, q3_A5, q3_c5, q3_A6, q3_c6, q3_A7, q3_c7, q3_A8, q3_c8, q3_A9, q3_c9, q3_n5, q3_n6, q3_n7, q3_n8, q3_n9, _, q3_S, q3_3, q3_4, q3_5, q3_6, q3_7, q3_8, q3_9⟩ := openP_diskDisk (x0 := d0.1) (x1 := d0.2.1) (x2 := d0.2.2.1) (x3 := d0.2.2.2.1) (x4 := d0.2.2.2.2.1) (x5 := d0.2.2.2.2.2.1.1) (x6 := d0.2.2.2.2.2.1.2.1) (x7 := d0.2.2.2.2.2.1.2.2.1) (x8 := d0.2.2.2.2.2.1.2.2.2) (x9 := d0.2.2.2.2.2.2) w1_0
   simp only [inK] at q3_3 q3_4
   have q3_r5 := q3_5.rm
   have q3_r6 := q3_6.rm
   have q3_r7 := q3_7.rm
   have q3_r8 := q3_8.rm
   have q3_r9 := q3_9.rm
   refine VO.inv _ (fun _ h => h.parts (i := 1) rfl q3_S [109, 104, 105, 106, 107, 108]) ?_
   refine VO.store (k := 1) 109 rfl rfl (.inr ⟨tk4, rfl⟩) rfl rfl rfl rfl rfl ?_
   refine VO.clsP 110 [109, 104, 105, 106, 107, 108] rfl (fun hg10 => (mkP_diskDisk d0.1 true d0.2.2.1 d0.2.2.2.1 d0.2.2.2.2.1 d0.2.2.2.2.2.1.1 d0.2.2.2.2.2.1.2.1 d0.2.2.2.2.2.1.2.2.1 d0.2.2.2.2.2.1.2.2.2 d0.2.2.2.2.2.2 hg10 bdk bdk (OwnL.ow (Ow.ownl q3_5 rfl mnil) rfl) (OwnL.ow (Ow.ownl q3_6 rfl mnil) rfl) (OwnL.ow (Ow.ownl q3_7 rfl mnil) rfl) (OwnL.ow (Ow.ownl q3_8 rfl mnil) rfl) q3_9)) (fun mc10 ho10 => ?_)
   refine VO.k4 0 2 3 7 (VC.rs (VO.as (VO.k4 0 2 3 7 (VC.ret ?_))))
   refine ⟨_, _, res_run (rs := [.tmp 2]) rfl (.tmp rfl .nil), fun W_ hI => out_of (l := [mc10]) hI [110] rfl rfl (mle_refl _) (fun hS_ => ?_)⟩
   dsimp only [packV]
   have hm0_ : ((dPull d0).1 : DdiskDisk) = (d0.1, true, d0.2.2) := by first | rfl | (first | rfl | (simp [dPull, *]; done))
   refine ⟨?_, ?_⟩
   rotate_left
   · rw [hm0_]; exact (Ow.up ho10 (hS_.1 _ (.head _)))
   all_goals (first | rfl | (first | rfl | (simp [dPull, *]; done)))
theorem dOn_ok (W : World) {m0 : Mem} (hm : mle (m0) (wm W)) {g0 : Nat} {d0 : DdiskDisk} (h0 : Ow (.ptr TdiskDisk) m0 [.pointer (some ⟨g0, 0, none⟩)] (g0, d0)) : CallR Try.prog 44 [.pointer (some ⟨g0, 0, none⟩)] W (m0) (fun v m' => v = .bool (decide (d0.1 = true ∧ d0.2.1 = false)) ∧ Ow (.ptr TdiskDisk) m' [.pointer (some ⟨g0, 0, none⟩)] (g0, d0)) := by
 refine CallR.ofB (n := 13) hm Try.func44 rfl rfl rfl ?_
 refine VC.rs (VO.as (VO.k2 0 2 (VC.rs (VO.mv ?_))))
 refine VO.call 1 rfl fnOk73 rfl rfl (fun W hW => dNone_ok W (hW.at (i := 1) rfl) h0) (fun v1 m1 hv1 => ?_)
 obtain ⟨rfl, w1_0⟩ := hv1
 refine VO.y rfl (.notD rfl) (VO.mv ?_)
 refine VO.dec (t := 6) rfl (fun hc2 => ?_) (fun hc2 => ?_)
 · refine VO.gy rfl ⟨_, rfl, rfl⟩ (.mv rfl) (VO.gy rfl ⟨_, rfl, rfl⟩ (.nilp rfl) ?_)
   refine VO.gy rfl ⟨_, rfl, rfl⟩ (.fa rfl tst72 rfl) ?_
   obtain ⟨q3_E, q3_A5, q3_c5, q3_A6, q3_c6, q3_A7, q3_c7, q3_A8, q3_c8, q3_A9, q3_c9, q3_n5, q3_n6, q3_n7, q3_n8, q3_n9, _, q3_S, q3_3, q3_4, q3_5, q3_6, q3_7, q3_8, q3_9⟩ := openP_diskDisk (x0 := d0.1) (x1 := d0.2.1) (x2 := d0.2.2.1) (x3 := d0.2.2.2.1) (x4 := d0.2.2.2.2.1) (x5 := d0.2.2.2.2.2.1.1) (x6 := d0.2.2.2.2.2.1.2.1) (x7 := d0.2.2.2.2.2.1.2.2.1) (x8 := d0.2.2.2.2.2.1.2.2.2) (x9 := d0.2.2.2.2.2.2) w1_0
   simp only [inK] at q3_3 q3_4
   have q3_r5 := q3_5.rm
   have q3_r6 := q3_6.rm
   have q3_r7 := q3_7.rm
   have q3_r8 := q3_8.rm
   have q3_r9 := q3_9.rm
   refine VO.inv _ (fun _ h => h.parts (i := 1) rfl q3_S [109, 104, 105, 106, 107, 108]) ?_
   refine VO.gy rfl ⟨_, rfl, rfl⟩ (.ld1 109 rfl tk4 rfl (cellsAt_one rfl rfl)) ?_
   refine VO.gy rfl ⟨_, rfl, rfl⟩ (.not rfl) (VO.y rfl (.pT rfl rfl) (VO.as ?_))
   refine VO.clsP 110 [109, 104, 105, 106, 107, 108] rfl (fun hg10 => (show Ow (.ptr TdiskDisk) _ _ (_, d0) from (mkP_diskDisk d0.1 d0.2.1 d0.2.2.1 d0.2.2.2.1 d0.2.2.2.2.1 d0.2.2.2.2.2.1.1 d0.2.2.2.2.2.1.2.1 d0.2.2.2.2.2.1.2.2.1 d0.2.2.2.2.2.1.2.2.2 d0.2.2.2.2.2.2 hg10 bdk bdk (OwnL.ow (Ow.ownl q3_5 rfl mnil) rfl) (OwnL.ow (Ow.ownl q3_6 rfl mnil) rfl) (OwnL.ow (Ow.ownl q3_7 rfl mnil) rfl) (OwnL.ow (Ow.ownl q3_8 rfl mnil) rfl) q3_9))) (fun mc10 ho10 => ?_)
   refine VO.k2 0 2 (VC.ret ?_)
   refine ⟨_, _, res_run (rs := [.tmp 2]) rfl (.tmp rfl .nil), fun W_ hI => out_of (l := [mc10]) hI [110] rfl rfl (mle_refl _) (fun hS_ => ?_)⟩
   dsimp only [packV]
   have hm0_ : (d0 : DdiskDisk) = d0 := by first | rfl | (simp [*]; done)
   refine ⟨?_, ?_⟩
   rotate_left
   · rw [hm0_]; exact (Ow.up ho10 (hS_.1 _ (.head _)))
   all_goals (first | rfl | (cases h1_ : d0.1 <;> cases h2_ : d0.2.1 <;> simp_all))
 · refine VO.gN (VO.gN (VO.gN (VO.gN (VO.gN (VO.y rfl (.pF rfl rfl) (VO.as (VO.k2 0 2 (VC.ret ?_))))))))
   refine ⟨_, _, res_run (rs := [.tmp 2]) rfl (.tmp rfl .nil), fun W_ hI => out_of (l := [m1]) hI [1] rfl rfl (mle_refl _) (fun hS_ => ?_)⟩
   dsimp only [packV]
   have hm0_ : (d0 : DdiskDisk) = d0 := by first | rfl | (simp [*]; done)
   refine ⟨?_, ?_⟩
   rotate_left
   · rw [hm0_]; exact (Ow.up w1_0 (hS_.1 _ (.head _)))
   all_goals (first | rfl | (cases h1_ : d0.1 <;> cases h2_ : d0.2.1 <;> simp_all))
theorem dSteps_ok (W : World) {m0 : Mem} (hm : mle (m0) (wm W)) {g0 : Nat} {d0 : DdiskDisk} (h0 : Ow (.ptr TdiskDisk) m0 [.pointer (some ⟨g0, 0, none⟩)] (g0, d0)) : CallR Try.prog 42 [.pointer (some ⟨g0, 0, none⟩)] W (m0) (fun v m' => v = .int .i64 (dSteps d0) ∧ Ow (.ptr TdiskDisk) m' [.pointer (some ⟨g0, 0, none⟩)] (g0, d0)) := by
 refine CallR.ofB (n := 9) hm Try.func42 rfl rfl rfl ?_
 refine VC.rs (VO.as (VO.k2 0 2 (VC.seq (VC.rs (VO.mv ?_)))))
 refine VO.call 1 rfl fnOk73 rfl rfl (fun W hW => dNone_ok W (hW.at (i := 1) rfl) h0) (fun v1 m1 hv1 => ?_)
 obtain ⟨rfl, w1_0⟩ := hv1
 refine VO.k3 0 2 4 ?_
 refine VC.cond rfl (fun hc2 => ?_) (fun hc2 => ?_)
 · refine VC.rs (VO.as ?_)
   refine VO.kp [1, 0] [(1, m1), (0, mout (wm W) (m0))] ?_
   refine VO.k3 0 2 4 (VC.ret (outR ?_))
   refine ⟨_, _, res_run (rs := [.tmp 2]) rfl (.tmp rfl .nil), fun W_ hI => out_of (l := [m1]) hI [1] rfl rfl (mle_refl _) (fun hS_ => ?_)⟩
   dsimp only [packV]
   have hm0_ : (d0 : DdiskDisk) = d0 := by first | rfl | (simp [*]; done)
   refine ⟨?_, ?_⟩
   rotate_left
   · rw [hm0_]; exact (Ow.up w1_0 (hS_.1 _ (.head _)))
   all_goals (first | rfl | (first | rfl | (simp [dSteps, *]; done)))
 · refine VC.skip (outN (VC.rs (VO.mv (VO.y rfl (.nilp rfl) (VO.y rfl (.fa rfl tst72 rfl) ?_)))))
   obtain ⟨q3_E, q3_A5, q3_c5, q3_A6, q3_c6, q3_A7, q3_c7, q3_A8, q3_c8, q3_A9, q3_c9, q3_n5, q3_n6, q3_n7, q3_n8, q3_n9, _, q3_S, q3_3, q3_4, q3_5, q3_6, q3_7, q3_8, q3_9⟩ := openP_diskDisk (x0 := d0.1) (x1 := d0.2.1) (x2 := d0.2.2.1) (x3 := d0.2.2.2.1) (x4 := d0.2.2.2.2.1) (x5 := d0.2.2.2.2.2.1.1) (x6 := d0.2.2.2.2.2.1.2.1) (x7 := d0.2.2.2.2.2.1.2.2.1) (x8 := d0.2.2.2.2.2.1.2.2.2) (x9 := d0.2.2.2.2.2.2) w1_0
   simp only [inK] at q3_3 q3_4
   have q3_r5 := q3_5.rm
   have q3_r6 := q3_6.rm
   have q3_r7 := q3_7.rm
   have q3_r8 := q3_8.rm
   have q3_r9 := q3_9.rm
   refine VO.inv _ (fun _ h => h.parts (i := 1) rfl q3_S [109, 104, 105, 106, 107, 108]) ?_
   refine VO.y rfl (.ld1 109 rfl tk3 rfl (cellsAt_one rfl rfl)) (VO.as ?_)
   refine VO.clsP 110 [109, 104, 105, 106, 107, 108] rfl (fun hg10 => (show Ow (.ptr TdiskDisk) _ _ (_, d0) from (mkP_diskDisk d0.1 d0.2.1 d0.2.2.1 d0.2.2.2.1 d0.2.2.2.2.1 d0.2.2.2.2.2.1.1 d0.2.2.2.2.2.1.2.1 d0.2.2.2.2.2.1.2.2.1 d0.2.2.2.2.2.1.2.2.2 d0.2.2.2.2.2.2 hg10 bdk bdk (OwnL.ow (Ow.ownl q3_5 rfl mnil) rfl) (OwnL.ow (Ow.ownl q3_6 rfl mnil) rfl) (OwnL.ow (Ow.ownl q3_7 rfl mnil) rfl) (OwnL.ow (Ow.ownl q3_8 rfl mnil) rfl) q3_9))) (fun mc10 ho10 => ?_)
   refine VO.kp [110, 0] [(110, mc10), (0, mout (wm W) (m0))] ?_
   refine VO.k3 0 2 4 (VC.ret ?_)
   refine ⟨_, _, res_run (rs := [.tmp 2]) rfl (.tmp rfl .nil), fun W_ hI => out_of (l := [mc10]) hI [110] rfl rfl (mle_refl _) (fun hS_ => ?_)⟩
   dsimp only [packV]
   have hm0_ : (d0 : DdiskDisk) = d0 := by first | rfl | (simp [*]; done)
   refine ⟨?_, ?_⟩
   rotate_left
   · rw [hm0_]; exact (Ow.up ho10 (hS_.1 _ (.head _)))
   all_goals (first | rfl | (first | rfl | (simp [dSteps, *]; done)))
theorem fin0_dDurable_ok {P : Prop} (h : P := by first | rfl | (simp [dDurable, *]; done) | (rw [durable_go (by assumption) (by assumption), getF0 ‹d1 = (0 : Int)›] <;> rfl) | (rw [durable_go (by assumption) (by assumption), getF1 ‹d1 = (1 : Int)›] <;> rfl) | (rw [durable_go (by assumption) (by assumption), getF2 ‹d1 = (2 : Int)›] <;> rfl) | (rw [durable_go (by assumption) (by assumption), getF3 ‹d1 = (3 : Int)›] <;> rfl)) : P := h
theorem fin1_dDurable_ok {P : Prop} (h : P := by first | omega | (simp only [List.length_append, List.length_nil, List.length_cons, List.length_take, List.length_drop] at *; omega) | (have h_ := Decidable.not_not.1 ‹¬ ¬ inF d1›; simp only [inF] at h_; omega) | (simp only [wD, sizeQ, List.length_nil] at *; omega)) : P := h
theorem dDurable_ok (W : World) {m0 : Mem} (hm : mle (m0) (wm W)) {g0 : Nat} {d0 : DdiskDisk} (h0 : Ow (.ptr TdiskDisk) m0 [.pointer (some ⟨g0, 0, none⟩)] (g0, d0)) (d1 : Int) (h1 : inK .i64 d1) (e0 : wD d0 ≤ 1000000000000) : CallR Try.prog 30 [.pointer (some ⟨g0, 0, none⟩), .int .i64 d1] W (m0) (fun v m' => ∃ (s0 : Value), ∃ (p0 : Mem), ∃ (p1 : Mem), v = s0 ∧ Seps m' [p0, p1] ∧ Ow (.sl .byte) p0 [s0] (dDurable d0 d1) ∧ Ow (.ptr TdiskDisk) p1 [.pointer (some ⟨g0, 0, none⟩)] (g0, d0)) := by
 have h1' := h1; simp only [inK] at h1'
 refine CallR.ofB (n := 19) hm Try.func30 rfl rfl rfl ?_
 refine VC.rs (VO.as (VO.k3 0 1 4 (VC.seq (VC.rs (VO.mv ?_)))))
 refine VO.call 1 rfl fnOk73 rfl rfl (fun W hW => dNone_ok W (hW.at (i := 1) rfl) h0) (fun v1 m1 hv1 => ?_)
 obtain ⟨rfl, w1_0⟩ := hv1
 refine VO.mv ?_
 refine VO.dec (t := 7) rfl (fun hc2 => ?_) (fun hc2 => ?_)
 · refine VO.gN (VO.gN (VO.gN (VO.y rfl (.pT rfl rfl) (VO.k4 0 1 4 11 (VC.condT rfl (VC.rs (VO.as ?_)))))))
   refine VO.kp [1, 0] [(1, m1), (0, mout (wm W) (m0))] ?_
   refine VO.k4 0 1 4 11 (VC.ret (outR ?_))
   refine ⟨_, _, res_run (rs := [.tmp 4]) rfl (.tmp rfl .nil), fun W_ hI => out_of (l := [m1]) hI [1] rfl rfl (mle_refl _) (fun hS_ => ?_)⟩
   dsimp only [packV]
   have he0 : (dDurable d0 d1 : Ty.Den (.sl .byte)) = [] := by first | rfl | (exact fin0_dDurable_ok)
   have hm0_ : (d0 : DdiskDisk) = d0 := by first | rfl | (exact fin0_dDurable_ok)
   refine ⟨Value.slice none (0) (0), muns [], muns [m1], ?_, ?_, ?_, ?_⟩
   rotate_left
   · exact Seps.grp (ls := [[], [m1]]) hS_
   · rw [he0]; exact (Ow.nil _ _)
   · rw [hm0_]; exact (Ow.up w1_0 ((Seps.self hS_ (List.Sublist.cons_cons _ List.Sublist.slnil)).1 _ (.head _)))
   all_goals (first | rfl | (first | rfl | (simp [dDurable, *]; done)))
 refine VO.gy rfl ⟨_, rfl, rfl⟩ (.mv rfl) ?_
 refine VO.gcallN 103 rfl ⟨_, rfl, rfl⟩ fnOk74 rfl (fun W hW => dIs_ok W d1 (by simp only [inK]; (exact fin1_dDurable_ok))) (fun v3 m3 hv3 => ?_)
 subst hv3
 refine VO.gy rfl ⟨_, rfl, rfl⟩ (.notD rfl) (VO.y rfl (.pF rfl rfl) (VO.k4 0 1 4 11 ?_))
 refine VC.cond rfl (fun hc4 => ?_) (fun hc4 => ?_)
 · refine VC.rs (VO.as ?_)
   refine VO.kp [1, 0] [(1, m1), (0, mout (wm W) (m0))] ?_
   refine VO.k4 0 1 4 11 (VC.ret (outR ?_))
   refine ⟨_, _, res_run (rs := [.tmp 4]) rfl (.tmp rfl .nil), fun W_ hI => out_of (l := [m1]) hI [1] rfl rfl (mle_refl _) (fun hS_ => ?_)⟩
   dsimp only [packV]
   have he0 : (dDurable d0 d1 : Ty.Den (.sl .byte)) = [] := by first | rfl | (exact fin0_dDurable_ok)
   have hm0_ : (d0 : DdiskDisk) = d0 := by first | rfl | (exact fin0_dDurable_ok)
   refine ⟨Value.slice none (0) (0), muns [], muns [m1], ?_, ?_, ?_, ?_⟩
   rotate_left
   · exact Seps.grp (ls := [[], [m1]]) hS_
   · rw [he0]; exact (Ow.nil _ _)
   · rw [hm0_]; exact (Ow.up w1_0 ((Seps.self hS_ (List.Sublist.cons_cons _ List.Sublist.slnil)).1 _ (.head _)))
   all_goals (first | rfl | (first | rfl | (simp [dDurable, *]; done)))
 refine VC.skip (outN (VC.rs (VO.mv (VO.mv (VO.y rfl (.nilp rfl) (VO.y rfl (.fa rfl tst72 rfl) ?_))))))
 rcases (show d1 = (0 : Int) ∨ d1 = (1 : Int) ∨ d1 = (2 : Int) ∨ d1 = (3 : Int) from by exact fin1_dDurable_ok) with hi5 | hi5 | hi5 | hi5
 · refine VO.y rfl (.ixa (i := 0) (o := 5) rfl rfl tar69 hi5 rfl rfl) ?_
   obtain ⟨q6_E, q6_A5, q6_c5, q6_A6, q6_c6, q6_A7, q6_c7, q6_A8, q6_c8, q6_A9, q6_c9, q6_n5, q6_n6, q6_n7, q6_n8, q6_n9, _, q6_S, q6_3, q6_4, q6_5, q6_6, q6_7, q6_8, q6_9⟩ := openP_diskDisk (x0 := d0.1) (x1 := d0.2.1) (x2 := d0.2.2.1) (x3 := d0.2.2.2.1) (x4 := d0.2.2.2.2.1) (x5 := d0.2.2.2.2.2.1.1) (x6 := d0.2.2.2.2.2.1.2.1) (x7 := d0.2.2.2.2.2.1.2.2.1) (x8 := d0.2.2.2.2.2.1.2.2.2) (x9 := d0.2.2.2.2.2.2) w1_0
   simp only [inK] at q6_3 q6_4
   have q6_r5 := q6_5.rm
   have q6_r6 := q6_6.rm
   have q6_r7 := q6_7.rm
   have q6_r8 := q6_8.rm
   have q6_r9 := q6_9.rm
   refine VO.inv _ (fun _ h => h.parts (i := 1) rfl q6_S [112, 107, 108, 109, 110, 111]) ?_
   refine VO.y rfl (.ld1 112 rfl tk25 rfl (cellsAt_one rfl rfl)) ?_
   refine VO.inv _ (fun _ h => h.nilc 114) ?_
   obtain ⟨mo13, cs13, hM13, hA13, hC13⟩ := (OwnL.nil .byte mnil mnil)
   obtain ⟨all13, hS13, hR13⟩ := Rd.srcI (P := Try.prog) ((OwnL.rd (Ow.ownl q6_5 rfl mnil) (mle_refl _) (mle_nil _))) Try.underlying25
   refine VO.app 114 rfl rfl rfl tsl25 tz5 rfl rfl hM13 hA13 (hS13 _ 107 rfl) hR13.nice (by simp only [maxLen]; (exact fin1_dDurable_ok)) (by exact fin1_dDurable_ok) (by decide) (fun v13 m13 hN13 => ?_)
   have ho13 : OwnL .byte m13 mnil v13 (d0.2.2.2.2.2.1.1) := OwnL.more hC13 hN13 (All2c.mono hR13 fun _ _ h => Rd.flat rfl h _)
   obtain ⟨A13, c13, rfl, l13, k13⟩ := ho13.slice
   simp only [maxLen] at k13
   refine VO.as ?_
   refine VO.clsP 115 [112, 107, 108, 109, 110, 111] rfl (fun hg15 => (show Ow (.ptr TdiskDisk) _ _ (_, d0) from (mkP_diskDisk d0.1 d0.2.1 d0.2.2.1 d0.2.2.2.1 d0.2.2.2.2.1 d0.2.2.2.2.2.1.1 d0.2.2.2.2.2.1.2.1 d0.2.2.2.2.2.1.2.2.1 d0.2.2.2.2.2.1.2.2.2 d0.2.2.2.2.2.2 hg15 (by simp only [inK]; (exact fin1_dDurable_ok)) (by simp only [inK]; (exact fin1_dDurable_ok)) (OwnL.ow (Ow.ownl q6_5 rfl mnil) rfl) (OwnL.ow (Ow.ownl q6_6 rfl mnil) rfl) (OwnL.ow (Ow.ownl q6_7 rfl mnil) rfl) (OwnL.ow (Ow.ownl q6_8 rfl mnil) rfl) q6_9))) (fun mc15 ho15 => ?_)
   refine VO.kp [115, 114, 0] [(115, mc15), (114, m13), (0, mout (wm W) (m0))] ?_
   refine VO.k4 0 1 4 11 (VC.ret ?_)
   refine ⟨_, _, res_run (rs := [.tmp 4]) rfl (.tmp rfl .nil), fun W_ hI => out_of (l := [m13, mc15]) hI [114, 115] rfl rfl (mle_refl _) (fun hS_ => ?_)⟩
   dsimp only [packV]
   have he0 : (dDurable d0 d1 : Ty.Den (.sl .byte)) = d0.2.2.2.2.2.1.1 := by first | rfl | (exact fin0_dDurable_ok)
   have hm0_ : (d0 : DdiskDisk) = d0 := by first | rfl | (exact fin0_dDurable_ok)
   refine ⟨Value.slice A13 ((d0.2.2.2.2.2.1.1).length) (c13), muns [m13], muns [mc15], ?_, ?_, ?_, ?_⟩
   rotate_left
   · exact Seps.grp (ls := [[m13], [mc15]]) hS_
   · rw [he0]; exact (Ow.up (OwnL.ow ho13 rfl) ((Seps.self hS_ (List.Sublist.cons_cons _ (List.Sublist.cons _ List.Sublist.slnil))).1 _ (.head _)))
   · rw [hm0_]; exact (Ow.up ho15 ((Seps.self hS_ (List.Sublist.cons _ (List.Sublist.cons_cons _ List.Sublist.slnil))).1 _ (.head _)))
   all_goals (first | rfl | (first | rfl | (simp [dDurable, *]; done)))
 · refine VO.y rfl (.ixa (i := 1) (o := 6) rfl rfl tar69 hi5 rfl rfl) ?_
   obtain ⟨q16_E, q16_A5, q16_c5, q16_A6, q16_c6, q16_A7, q16_c7, q16_A8, q16_c8, q16_A9, q16_c9, q16_n5, q16_n6, q16_n7, q16_n8, q16_n9, _, q16_S, q16_3, q16_4, q16_5, q16_6, q16_7, q16_8, q16_9⟩ := openP_diskDisk (x0 := d0.1) (x1 := d0.2.1) (x2 := d0.2.2.1) (x3 := d0.2.2.2.1) (x4 := d0.2.2.2.2.1) (x5 := d0.2.2.2.2.2.1.1) (x6 := d0.2.2.2.2.2.1.2.1) (x7 := d0.2.2.2.2.2.1.2.2.1) (x8 := d0.2.2.2.2.2.1.2.2.2) (x9 := d0.2.2.2.2.2.2) w1_0
   simp only [inK] at q16_3 q16_4
   have q16_r5 := q16_5.rm
   have q16_r6 := q16_6.rm
   have q16_r7 := q16_7.rm
   have q16_r8 := q16_8.rm
   have q16_r9 := q16_9.rm
   refine VO.inv _ (fun _ h => h.parts (i := 1) rfl q16_S [122, 117, 118, 119, 120, 121]) ?_
   refine VO.y rfl (.ld1 122 rfl tk25 rfl (cellsAt_one rfl rfl)) ?_
   refine VO.inv _ (fun _ h => h.nilc 124) ?_
   obtain ⟨mo23, cs23, hM23, hA23, hC23⟩ := (OwnL.nil .byte mnil mnil)
   obtain ⟨all23, hS23, hR23⟩ := Rd.srcI (P := Try.prog) ((OwnL.rd (Ow.ownl q16_6 rfl mnil) (mle_refl _) (mle_nil _))) Try.underlying25
   refine VO.app 124 rfl rfl rfl tsl25 tz5 rfl rfl hM23 hA23 (hS23 _ 118 rfl) hR23.nice (by simp only [maxLen]; (exact fin1_dDurable_ok)) (by exact fin1_dDurable_ok) (by decide) (fun v23 m23 hN23 => ?_)
   have ho23 : OwnL .byte m23 mnil v23 (d0.2.2.2.2.2.1.2.1) := OwnL.more hC23 hN23 (All2c.mono hR23 fun _ _ h => Rd.flat rfl h _)
   obtain ⟨A23, c23, rfl, l23, k23⟩ := ho23.slice
   simp only [maxLen] at k23
   refine VO.as ?_
   refine VO.clsP 125 [122, 117, 118, 119, 120, 121] rfl (fun hg25 => (show Ow (.ptr TdiskDisk) _ _ (_, d0) from (mkP_diskDisk d0.1 d0.2.1 d0.2.2.1 d0.2.2.2.1 d0.2.2.2.2.1 d0.2.2.2.2.2.1.1 d0.2.2.2.2.2.1.2.1 d0.2.2.2.2.2.1.2.2.1 d0.2.2.2.2.2.1.2.2.2 d0.2.2.2.2.2.2 hg25 (by simp only [inK]; (exact fin1_dDurable_ok)) (by simp only [inK]; (exact fin1_dDurable_ok)) (OwnL.ow (Ow.ownl q16_5 rfl mnil) rfl) (OwnL.ow (Ow.ownl q16_6 rfl mnil) rfl) (OwnL.ow (Ow.ownl q16_7 rfl mnil) rfl) (OwnL.ow (Ow.ownl q16_8 rfl mnil) rfl) q16_9))) (fun mc25 ho25 => ?_)
   refine VO.kp [125, 124, 0] [(125, mc25), (124, m23), (0, mout (wm W) (m0))] ?_
   refine VO.k4 0 1 4 11 (VC.ret ?_)
   refine ⟨_, _, res_run (rs := [.tmp 4]) rfl (.tmp rfl .nil), fun W_ hI => out_of (l := [m23, mc25]) hI [124, 125] rfl rfl (mle_refl _) (fun hS_ => ?_)⟩
   dsimp only [packV]
   have he0 : (dDurable d0 d1 : Ty.Den (.sl .byte)) = d0.2.2.2.2.2.1.2.1 := by first | rfl | (exact fin0_dDurable_ok)
   have hm0_ : (d0 : DdiskDisk) = d0 := by first | rfl | (exact fin0_dDurable_ok)
   refine ⟨Value.slice A23 ((d0.2.2.2.2.2.1.2.1).length) (c23), muns [m23], muns [mc25], ?_, ?_, ?_, ?_⟩
   rotate_left
   · exact Seps.grp (ls := [[m23], [mc25]]) hS_
   · rw [he0]; exact (Ow.up (OwnL.ow ho23 rfl) ((Seps.self hS_ (List.Sublist.cons_cons _ (List.Sublist.cons _ List.Sublist.slnil))).1 _ (.head _)))
   · rw [hm0_]; exact (Ow.up ho25 ((Seps.self hS_ (List.Sublist.cons _ (List.Sublist.cons_cons _ List.Sublist.slnil))).1 _ (.head _)))
   all_goals (first | rfl | (first | rfl | (simp [dDurable, *]; done)))
 · refine VO.y rfl (.ixa (i := 2) (o := 7) rfl rfl tar69 hi5 rfl rfl) ?_
   obtain ⟨q26_E, q26_A5, q26_c5, q26_A6, q26_c6, q26_A7, q26_c7, q26_A8, q26_c8, q26_A9, q26_c9, q26_n5, q26_n6, q26_n7, q26_n8, q26_n9, _, q26_S, q26_3, q26_4, q26_5, q26_6, q26_7, q26_8, q26_9⟩ := openP_diskDisk (x0 := d0.1) (x1 := d0.2.1) (x2 := d0.2.2.1) (x3 := d0.2.2.2.1) (x4 := d0.2.2.2.2.1) (x5 := d0.2.2.2.2.2.1.1) (x6 := d0.2.2.2.2.2.1.2.1) (x7 := d0.2.2.2.2.2.1.2.2.1) (x8 := d0.2.2.2.2.2.1.2.2.2) (x9 := d0.2.2.2.2.2.2) w1_0
   simp only [inK] at q26_3 q26_4
   have q26_r5 := q26_5.rm
   have q26_r6 := q26_6.rm
   have q26_r7 := q26_7.rm
   have q26_r8 := q26_8.rm
   have q26_r9 := q26_9.rm
   refine VO.inv _ (fun _ h => h.parts (i := 1) rfl q26_S [132, 127, 128, 129, 130, 131]) ?_
   refine VO.y rfl (.ld1 132 rfl tk25 rfl (cellsAt_one rfl rfl)) ?_
   refine VO.inv _ (fun _ h => h.nilc 134) ?_
   obtain ⟨mo33, cs33, hM33, hA33, hC33⟩ := (OwnL.nil .byte mnil mnil)
   obtain ⟨all33, hS33, hR33⟩ := Rd.srcI (P := Try.prog) ((OwnL.rd (Ow.ownl q26_7 rfl mnil) (mle_refl _) (mle_nil _))) Try.underlying25
   refine VO.app 134 rfl rfl rfl tsl25 tz5 rfl rfl hM33 hA33 (hS33 _ 129 rfl) hR33.nice (by simp only [maxLen]; (exact fin1_dDurable_ok)) (by exact fin1_dDurable_ok) (by decide) (fun v33 m33 hN33 => ?_)
   have ho33 : OwnL .byte m33 mnil v33 (d0.2.2.2.2.2.1.2.2.1) := OwnL.more hC33 hN33 (All2c.mono hR33 fun _ _ h => Rd.flat rfl h _)
   obtain ⟨A33, c33, rfl, l33, k33⟩ := ho33.slice
   simp only [maxLen] at k33
   refine VO.as ?_
   refine VO.clsP 135 [132, 127, 128, 129, 130, 131] rfl (fun hg35 => (show Ow (.ptr TdiskDisk) _ _ (_, d0) from (mkP_diskDisk d0.1 d0.2.1 d0.2.2.1 d0.2.2.2.1 d0.2.2.2.2.1 d0.2.2.2.2.2.1.1 d0.2.2.2.2.2.1.2.1 d0.2.2.2.2.2.1.2.2.1 d0.2.2.2.2.2.1.2.2.2 d0.2.2.2.2.2.2 hg35 (by simp only [inK]; (exact fin1_dDurable_ok)) (by simp only [inK]; (exact fin1_dDurable_ok)) (OwnL.ow (Ow.ownl q26_5 rfl mnil) rfl) (OwnL.ow (Ow.ownl q26_6 rfl mnil) rfl) (OwnL.ow (Ow.ownl q26_7 rfl mnil) rfl) (OwnL.ow (Ow.ownl q26_8 rfl mnil) rfl) q26_9))) (fun mc35 ho35 => ?_)
   refine VO.kp [135, 134, 0] [(135, mc35), (134, m33), (0, mout (wm W) (m0))] ?_
   refine VO.k4 0 1 4 11 (VC.ret ?_)
   refine ⟨_, _, res_run (rs := [.tmp 4]) rfl (.tmp rfl .nil), fun W_ hI => out_of (l := [m33, mc35]) hI [134, 135] rfl rfl (mle_refl _) (fun hS_ => ?_)⟩
   dsimp only [packV]
   have he0 : (dDurable d0 d1 : Ty.Den (.sl .byte)) = d0.2.2.2.2.2.1.2.2.1 := by first | rfl | (exact fin0_dDurable_ok)
   have hm0_ : (d0 : DdiskDisk) = d0 := by first | rfl | (exact fin0_dDurable_ok)
   refine ⟨Value.slice A33 ((d0.2.2.2.2.2.1.2.2.1).length) (c33), muns [m33], muns [mc35], ?_, ?_, ?_, ?_⟩
   rotate_left
   · exact Seps.grp (ls := [[m33], [mc35]]) hS_
   · rw [he0]; exact (Ow.up (OwnL.ow ho33 rfl) ((Seps.self hS_ (List.Sublist.cons_cons _ (List.Sublist.cons _ List.Sublist.slnil))).1 _ (.head _)))
   · rw [hm0_]; exact (Ow.up ho35 ((Seps.self hS_ (List.Sublist.cons _ (List.Sublist.cons_cons _ List.Sublist.slnil))).1 _ (.head _)))
   all_goals (first | rfl | (first | rfl | (simp [dDurable, *]; done)))
 · refine VO.y rfl (.ixa (i := 3) (o := 8) rfl rfl tar69 hi5 rfl rfl) ?_
   obtain ⟨q36_E, q36_A5, q36_c5, q36_A6, q36_c6, q36_A7, q36_c7, q36_A8, q36_c8, q36_A9, q36_c9, q36_n5, q36_n6, q36_n7, q36_n8, q36_n9, _, q36_S, q36_3, q36_4, q36_5, q36_6, q36_7, q36_8, q36_9⟩ := openP_diskDisk (x0 := d0.1) (x1 := d0.2.1) (x2 := d0.2.2.1) (x3 := d0.2.2.2.1) (x4 := d0.2.2.2.2.1) (x5 := d0.2.2.2.2.2.1.1) (x6 := d0.2.2.2.2.2.1.2.1) (x7 := d0.2.2.2.2.2.1.2.2.1) (x8 := d0.2.2.2.2.2.1.2.2.2) (x9 := d0.2.2.2.2.2.2) w1_0
   simp only [inK] at q36_3 q36_4
   have q36_r5 := q36_5.rm
   have q36_r6 := q36_6.rm
   have q36_r7 := q36_7.rm
   have q36_r8 := q36_8.rm
   have q36_r9 := q36_9.rm
   refine VO.inv _ (fun _ h => h.parts (i := 1) rfl q36_S [142, 137, 138, 139, 140, 141]) ?_
   refine VO.y rfl (.ld1 142 rfl tk25 rfl (cellsAt_one rfl rfl)) ?_
   refine VO.inv _ (fun _ h => h.nilc 144) ?_
   obtain ⟨mo43, cs43, hM43, hA43, hC43⟩ := (OwnL.nil .byte mnil mnil)
   obtain ⟨all43, hS43, hR43⟩ := Rd.srcI (P := Try.prog) ((OwnL.rd (Ow.ownl q36_8 rfl mnil) (mle_refl _) (mle_nil _))) Try.underlying25
   refine VO.app 144 rfl rfl rfl tsl25 tz5 rfl rfl hM43 hA43 (hS43 _ 140 rfl) hR43.nice (by simp only [maxLen]; (exact fin1_dDurable_ok)) (by exact fin1_dDurable_ok) (by decide) (fun v43 m43 hN43 => ?_)
   have ho43 : OwnL .byte m43 mnil v43 (d0.2.2.2.2.2.1.2.2.2) := OwnL.more hC43 hN43 (All2c.mono hR43 fun _ _ h => Rd.flat rfl h _)
   obtain ⟨A43, c43, rfl, l43, k43⟩ := ho43.slice
   simp only [maxLen] at k43
   refine VO.as ?_
   refine VO.clsP 145 [142, 137, 138, 139, 140, 141] rfl (fun hg45 => (show Ow (.ptr TdiskDisk) _ _ (_, d0) from (mkP_diskDisk d0.1 d0.2.1 d0.2.2.1 d0.2.2.2.1 d0.2.2.2.2.1 d0.2.2.2.2.2.1.1 d0.2.2.2.2.2.1.2.1 d0.2.2.2.2.2.1.2.2.1 d0.2.2.2.2.2.1.2.2.2 d0.2.2.2.2.2.2 hg45 (by simp only [inK]; (exact fin1_dDurable_ok)) (by simp only [inK]; (exact fin1_dDurable_ok)) (OwnL.ow (Ow.ownl q36_5 rfl mnil) rfl) (OwnL.ow (Ow.ownl q36_6 rfl mnil) rfl) (OwnL.ow (Ow.ownl q36_7 rfl mnil) rfl) (OwnL.ow (Ow.ownl q36_8 rfl mnil) rfl) q36_9))) (fun mc45 ho45 => ?_)
   refine VO.kp [145, 144, 0] [(145, mc45), (144, m43), (0, mout (wm W) (m0))] ?_
   refine VO.k4 0 1 4 11 (VC.ret ?_)
   refine ⟨_, _, res_run (rs := [.tmp 4]) rfl (.tmp rfl .nil), fun W_ hI => out_of (l := [m43, mc45]) hI [144, 145] rfl rfl (mle_refl _) (fun hS_ => ?_)⟩
   dsimp only [packV]
   have he0 : (dDurable d0 d1 : Ty.Den (.sl .byte)) = d0.2.2.2.2.2.1.2.2.2 := by first | rfl | (exact fin0_dDurable_ok)
   have hm0_ : (d0 : DdiskDisk) = d0 := by first | rfl | (exact fin0_dDurable_ok)
   refine ⟨Value.slice A43 ((d0.2.2.2.2.2.1.2.2.2).length) (c43), muns [m43], muns [mc45], ?_, ?_, ?_, ?_⟩
   rotate_left
   · exact Seps.grp (ls := [[m43], [mc45]]) hS_
   · rw [he0]; exact (Ow.up (OwnL.ow ho43 rfl) ((Seps.self hS_ (List.Sublist.cons_cons _ (List.Sublist.cons _ List.Sublist.slnil))).1 _ (.head _)))
   · rw [hm0_]; exact (Ow.up ho45 ((Seps.self hS_ (List.Sublist.cons _ (List.Sublist.cons_cons _ List.Sublist.slnil))).1 _ (.head _)))
   all_goals (first | rfl | (first | rfl | (simp [dDurable, *]; done)))
theorem fin0_dStart_ok {P : Prop} (h : P := by first | (rw [start_bad1 (by assumption)] <;> rfl) | (rw [start_bad2 (by assumption) (.inl (by simpa using ‹_›))] <;> rfl) | (rw [start_bad2 (by assumption) (.inr (.inl (by assumption)))] <;> rfl) | (rw [start_bad2 (by assumption) (.inr (.inr (by assumption)))] <;> rfl) | (rw [start_go (by assumption) (by simpa using ‹_›) (by assumption) (by assumption), torn_nil (by omega)] <;> rfl) | (rw [start_go (by assumption) (by simpa using ‹_›) (by assumption) (by assumption), torn_no (by assumption) (by assumption)] <;> rfl) | (rw [start_go (by assumption) (by simpa using ‹_›) (by assumption) (by assumption), torn_yes (by assumption) (by assumption), stepQ, setQ0 ‹_ = (0 : Int)›, getF0 ‹_ = (0 : Int)›] <;> rfl) | (rw [start_go (by assumption) (by simpa using ‹_›) (by assumption) (by assumption), torn_yes (by assumption) (by assumption), stepQ, setQ1 ‹_ = (1 : Int)›, getF1 ‹_ = (1 : Int)›] <;> rfl) | (rw [start_go (by assumption) (by simpa using ‹_›) (by assumption) (by assumption), torn_yes (by assumption) (by assumption), stepQ, setQ2 ‹_ = (2 : Int)›, getF2 ‹_ = (2 : Int)›] <;> rfl) | (rw [start_go (by assumption) (by simpa using ‹_›) (by assumption) (by assumption), torn_yes (by assumption) (by assumption), stepQ, setQ3 ‹_ = (3 : Int)›, getF3 ‹_ = (3 : Int)›] <;> rfl)) : P := h
theorem fin2_dStart_ok {P : Prop} (h : P := by first | omega | (simp only [List.length_append, List.length_nil, List.length_cons, List.length_take, List.length_drop] at *; omega) | (have h_ := start_good (by assumption) ‹_[0]? = some _›; simp only [inF] at h_; omega)) : P := h
set_option maxHeartbeats 4000000 in
theorem dStart_ok (W : World) {m0 : Mem} (hm : mle (m0) (wm W)) {g0 : Nat} {d0 : DdiskDisk} (h0 : Ow (.ptr TdiskDisk) m0 [.pointer (some ⟨g0, 0, none⟩)] (g0, d0)) (d1 : Int) (h1 : inK .i64 d1) (d2 : Int) (h2 : inK .i64 d2) (e0 : okD d0) (e1 : wD d0 ≤ 1000000000000) : CallR Try.prog 48 [.pointer (some ⟨g0, 0, none⟩), .int .i64 d1, .int .i64 d2] W (m0) (fun v m' => v = .int .i64 ((dStart d0 d1 d2).2) ∧ Ow (.ptr TdiskDisk) m' [.pointer (some ⟨g0, 0, none⟩)] (g0, (dStart d0 d1 d2).1)) := by
  have h1' := h1; simp only [inK] at h1'
  have h2' := h2; simp only [inK] at h2'
  refine CallR.ofB (n := 93) hm Try.func48 rfl rfl rfl ?_
  refine VC.rs ?_
  refine VO.as ?_
  refine VO.k4 0 1 2 6 ?_
  refine VC.seq ?_
  refine VC.block ?_
  refine VC.rs ?_
  refine VO.mv ?_
  refine VO.call 1 rfl fnOk73 rfl rfl (fun W hW => dNone_ok W (hW.at (i := 1) rfl) h0) (fun v1 m1 hv1 => ?_)
  obtain ⟨rfl, w1_0⟩ := hv1
  refine VO.as ?_
  refine VO.k5 0 1 2 6 8 ?_
  refine VC.cond rfl (fun hc2 => ?_) (fun hc2 => ?_)
  · -- T
    refine VC.rs ?_
    refine VO.as ?_
    refine VO.kp [1, 0] [(1, m1), (0, mout (wm W) (m0))] ?_
    refine VO.k5 0 1 2 6 8 ?_
    refine VC.ret ?_
    refine outBR ?_
    refine outR ?_
    refine ⟨_, _, res_run (rs := [.tmp 6]) rfl (.tmp rfl .nil), fun W_ hI => out_of (l := [m1]) hI [1] rfl rfl (mle_refl _) (fun hS_ => ?_)⟩
    dsimp only [packV]
    have hm0_ : ((dStart d0 d1 d2).1 : DdiskDisk) = d0 := by first | rfl | (exact fin0_dStart_ok)
    refine ⟨?_, ?_⟩
    rotate_left
    · rw [hm0_]; exact (Ow.up w1_0 (hS_.1 _ (.head _)))
    all_goals (first | rfl | (exact fin0_dStart_ok))
  · -- F
    refine VC.rs ?_
    refine VO.mv ?_
    refine VO.y rfl (.nilp rfl) ?_
    refine VO.y rfl (.fa rfl tst72 rfl) ?_
    obtain ⟨q3_E, q3_A5, q3_c5, q3_A6, q3_c6, q3_A7, q3_c7, q3_A8, q3_c8, q3_A9, q3_c9, q3_n5, q3_n6, q3_n7, q3_n8, q3_n9, _, q3_S, q3_3, q3_4, q3_5, q3_6, q3_7, q3_8, q3_9⟩ := openP_diskDisk (x0 := d0.1) (x1 := d0.2.1) (x2 := d0.2.2.1) (x3 := d0.2.2.2.1) (x4 := d0.2.2.2.2.1) (x5 := d0.2.2.2.2.2.1.1) (x6 := d0.2.2.2.2.2.1.2.1) (x7 := d0.2.2.2.2.2.1.2.2.1) (x8 := d0.2.2.2.2.2.1.2.2.2) (x9 := d0.2.2.2.2.2.2) w1_0
    simp only [inK] at q3_3
    simp only [inK] at q3_4
    have q3_r5 := q3_5.rm
    have q3_r6 := q3_6.rm
    have q3_r7 := q3_7.rm
    have q3_r8 := q3_8.rm
    have q3_r9 := q3_9.rm
    refine VO.inv _ (fun _ h => h.parts (i := 1) rfl q3_S [109, 104, 105, 106, 107, 108]) ?_
    refine VO.y rfl (.ld1 109 rfl tk4 rfl (cellsAt_one rfl rfl)) ?_
    refine VO.y rfl (.not rfl) ?_
    refine VO.mv ?_
    refine VO.decBN (t := 17) rfl (fun hc10 => ?_) (fun hc10 => ?_)
    · -- FT
      refine VO.gN ?_
      refine VO.gN ?_
      refine VO.y rfl (.pT rfl rfl) ?_
      refine VO.mv ?_
      refine VO.gN ?_
      refine VO.gN ?_
      refine VO.y rfl (.pT rfl rfl) ?_
      refine VO.as ?_
      refine VO.clsP 111 [109, 104, 105, 106, 107, 108] rfl (fun hg11 => (show Ow (.ptr TdiskDisk) _ _ (_, d0) from (mkP_diskDisk d0.1 d0.2.1 d0.2.2.1 d0.2.2.2.1 d0.2.2.2.2.1 d0.2.2.2.2.2.1.1 d0.2.2.2.2.2.1.2.1 d0.2.2.2.2.2.1.2.2.1 d0.2.2.2.2.2.1.2.2.2 d0.2.2.2.2.2.2 hg11 (by simp only [inK]; (exact fin2_dStart_ok)) (by simp only [inK]; (exact fin2_dStart_ok)) (OwnL.ow (Ow.ownl q3_5 rfl mnil) rfl) (OwnL.ow (Ow.ownl q3_6 rfl mnil) rfl) (OwnL.ow (Ow.ownl q3_7 rfl mnil) rfl) (OwnL.ow (Ow.ownl q3_8 rfl mnil) rfl) q3_9))) (fun mc11 ho11 => ?_)
      refine VO.kp [111, 0] [(111, mc11), (0, mout (wm W) (m0))] ?_
      refine VO.k6 0 1 2 6 8 11 ?_
      refine VC.condT rfl ?_
      refine VC.rs ?_
      refine VO.as ?_
      refine VO.k6 0 1 2 6 8 11 ?_
      refine VC.ret ?_
      refine outBR ?_
      refine outR ?_
      refine ⟨_, _, res_run (rs := [.tmp 6]) rfl (.tmp rfl .nil), fun W_ hI => out_of (l := [mc11]) hI [111] rfl rfl (mle_refl _) (fun hS_ => ?_)⟩
      dsimp only [packV]
      have hm0_ : ((dStart d0 d1 d2).1 : DdiskDisk) = d0 := by first | rfl | (exact fin0_dStart_ok)
      refine ⟨?_, ?_⟩
      rotate_left
      · rw [hm0_]; exact (Ow.up ho11 (hS_.1 _ (.head _)))
      all_goals (first | rfl | (exact fin0_dStart_ok))
    · -- FF
      refine VO.gy rfl ⟨_, rfl, rfl⟩ (.mv rfl) ?_
      refine VO.gy rfl ⟨_, rfl, rfl⟩ (.lss rfl rfl) ?_
      refine VO.y rfl (.pF rfl rfl) ?_
      refine VO.mv ?_
      refine VO.dec (t := 21) rfl (fun hc12 => ?_) (fun hc12 => ?_)
      · -- FFT
        refine VO.gN ?_
        refine VO.gN ?_
        refine VO.y rfl (.pT rfl rfl) ?_
        refine VO.as ?_
        refine VO.clsP 113 [109, 104, 105, 106, 107, 108] rfl (fun hg13 => (show Ow (.ptr TdiskDisk) _ _ (_, d0) from (mkP_diskDisk d0.1 d0.2.1 d0.2.2.1 d0.2.2.2.1 d0.2.2.2.2.1 d0.2.2.2.2.2.1.1 d0.2.2.2.2.2.1.2.1 d0.2.2.2.2.2.1.2.2.1 d0.2.2.2.2.2.1.2.2.2 d0.2.2.2.2.2.2 hg13 (by simp only [inK]; (exact fin2_dStart_ok)) (by simp only [inK]; (exact fin2_dStart_ok)) (OwnL.ow (Ow.ownl q3_5 rfl mnil) rfl) (OwnL.ow (Ow.ownl q3_6 rfl mnil) rfl) (OwnL.ow (Ow.ownl q3_7 rfl mnil) rfl) (OwnL.ow (Ow.ownl q3_8 rfl mnil) rfl) q3_9))) (fun mc13 ho13 => ?_)
        refine VO.kp [113, 0] [(113, mc13), (0, mout (wm W) (m0))] ?_
        refine VO.k6 0 1 2 6 8 11 ?_
        refine VC.condT rfl ?_
        refine VC.rs ?_
        refine VO.as ?_
        refine VO.k6 0 1 2 6 8 11 ?_
        refine VC.ret ?_
        refine outBR ?_
        refine outR ?_
        refine ⟨_, _, res_run (rs := [.tmp 6]) rfl (.tmp rfl .nil), fun W_ hI => out_of (l := [mc13]) hI [113] rfl rfl (mle_refl _) (fun hS_ => ?_)⟩
        dsimp only [packV]
        have hm0_ : ((dStart d0 d1 d2).1 : DdiskDisk) = d0 := by first | rfl | (exact fin0_dStart_ok)
        refine ⟨?_, ?_⟩
        rotate_left
        · rw [hm0_]; exact (Ow.up ho13 (hS_.1 _ (.head _)))
        all_goals (first | rfl | (exact fin0_dStart_ok))
      · -- FFF
        refine VO.gy rfl ⟨_, rfl, rfl⟩ (.mv rfl) ?_
        refine VO.gy rfl ⟨_, rfl, rfl⟩ (.lss rfl rfl) ?_
        refine VO.y rfl (.pF rfl rfl) ?_
        refine VO.as ?_
        refine VO.clsP 114 [109, 104, 105, 106, 107, 108] rfl (fun hg14 => (show Ow (.ptr TdiskDisk) _ _ (_, d0) from (mkP_diskDisk d0.1 d0.2.1 d0.2.2.1 d0.2.2.2.1 d0.2.2.2.2.1 d0.2.2.2.2.2.1.1 d0.2.2.2.2.2.1.2.1 d0.2.2.2.2.2.1.2.2.1 d0.2.2.2.2.2.1.2.2.2 d0.2.2.2.2.2.2 hg14 (by simp only [inK]; (exact fin2_dStart_ok)) (by simp only [inK]; (exact fin2_dStart_ok)) (OwnL.ow (Ow.ownl q3_5 rfl mnil) rfl) (OwnL.ow (Ow.ownl q3_6 rfl mnil) rfl) (OwnL.ow (Ow.ownl q3_7 rfl mnil) rfl) (OwnL.ow (Ow.ownl q3_8 rfl mnil) rfl) q3_9))) (fun mc14 ho14 => ?_)
        refine VO.kp [114, 0] [(114, mc14), (0, mout (wm W) (m0))] ?_
        refine VO.k6 0 1 2 6 8 11 ?_
        refine VC.cond rfl (fun hc15 => ?_) (fun hc15 => ?_)
        · -- FFFT
          refine VC.rs ?_
          refine VO.as ?_
          refine VO.k6 0 1 2 6 8 11 ?_
          refine VC.ret ?_
          refine outBR ?_
          refine outR ?_
          refine ⟨_, _, res_run (rs := [.tmp 6]) rfl (.tmp rfl .nil), fun W_ hI => out_of (l := [mc14]) hI [114] rfl rfl (mle_refl _) (fun hS_ => ?_)⟩
          dsimp only [packV]
          have hm0_ : ((dStart d0 d1 d2).1 : DdiskDisk) = d0 := by first | rfl | (exact fin0_dStart_ok)
          refine ⟨?_, ?_⟩
          rotate_left
          · rw [hm0_]; exact (Ow.up ho14 (hS_.1 _ (.head _)))
          all_goals (first | rfl | (exact fin0_dStart_ok))
        · -- FFFF
          refine VC.skip ?_
          refine outBN ?_
          refine outN ?_
          refine VC.rs ?_
          refine VO.mv ?_
          refine VO.mv ?_
          refine VO.mv ?_
          refine VO.y rfl (.nilp rfl) ?_
          refine VO.y rfl (.fa rfl tst72 rfl) ?_
          obtain ⟨q16_E, q16_A5, q16_c5, q16_A6, q16_c6, q16_A7, q16_c7, q16_A8, q16_c8, q16_A9, q16_c9, q16_n5, q16_n6, q16_n7, q16_n8, q16_n9, _, q16_S, q16_3, q16_4, q16_5, q16_6, q16_7, q16_8, q16_9⟩ := openP_diskDisk (x0 := d0.1) (x1 := d0.2.1) (x2 := d0.2.2.1) (x3 := d0.2.2.2.1) (x4 := d0.2.2.2.2.1) (x5 := d0.2.2.2.2.2.1.1) (x6 := d0.2.2.2.2.2.1.2.1) (x7 := d0.2.2.2.2.2.1.2.2.1) (x8 := d0.2.2.2.2.2.1.2.2.2) (x9 := d0.2.2.2.2.2.2) ho14
          simp only [inK] at q16_3
          simp only [inK] at q16_4
          have q16_r5 := q16_5.rm
          have q16_r6 := q16_6.rm
          have q16_r7 := q16_7.rm
          have q16_r8 := q16_8.rm
          have q16_r9 := q16_9.rm
          refine VO.inv _ (fun _ h => h.parts (i := 114) rfl q16_S [122, 117, 118, 119, 120, 121]) ?_
          refine VO.y rfl (.ld1 122 rfl tk70 rfl (cellsAt_one rfl rfl)) ?_
          refine VO.y rfl (.lenS rfl tsl70) ?_
          refine VO.y rfl (.minM rfl rfl) ?_
          refine VO.clsP 124 [122, 117, 118, 119, 120, 121] rfl (fun hg24 => (show Ow (.ptr TdiskDisk) _ _ (_, d0) from (mkP_diskDisk d0.1 d0.2.1 d0.2.2.1 d0.2.2.2.1 d0.2.2.2.2.1 d0.2.2.2.2.2.1.1 d0.2.2.2.2.2.1.2.1 d0.2.2.2.2.2.1.2.2.1 d0.2.2.2.2.2.1.2.2.2 d0.2.2.2.2.2.2 hg24 (by simp only [inK]; (exact fin2_dStart_ok)) (by simp only [inK]; (exact fin2_dStart_ok)) (OwnL.ow (Ow.ownl q16_5 rfl mnil) rfl) (OwnL.ow (Ow.ownl q16_6 rfl mnil) rfl) (OwnL.ow (Ow.ownl q16_7 rfl mnil) rfl) (OwnL.ow (Ow.ownl q16_8 rfl mnil) rfl) q16_9))) (fun mc24 ho24 => ?_)
          refine VO.call 124 rfl fnOk79 rfl rfl (fun W hW => dSettle_ok W (hW.at (i := 124) rfl) ho24 (min d1 ((d0.2.2.2.2.2.2.length : Nat) : Int)) (by simp only [inK]; (exact fin2_dStart_ok)) (by assumption) (by exact fin2_dStart_ok) (by exact fin2_dStart_ok)) (fun v23 m23 hv23 => ?_)
          obtain ⟨rfl, w23_0⟩ := hv23
          have hfa25 := (settle_ok (min d1 ((d0.2.2.2.2.2.2.length : Nat) : Int)).toNat (show okD d0 by assumption))
          have hfa26 := (settle_w d0 (min d1 ((d0.2.2.2.2.2.2.length : Nat) : Int)).toNat)
          refine VO.k6 0 1 2 6 8 11 ?_
          refine VC.seq ?_
          refine VC.rs ?_
          refine VO.mv ?_
          refine VO.y rfl (.nilp rfl) ?_
          refine VO.y rfl (.fa rfl tst72 rfl) ?_
          obtain ⟨q27_E, q27_A5, q27_c5, q27_A6, q27_c6, q27_A7, q27_c7, q27_A8, q27_c8, q27_A9, q27_c9, q27_n5, q27_n6, q27_n7, q27_n8, q27_n9, _, q27_S, q27_3, q27_4, q27_5, q27_6, q27_7, q27_8, q27_9⟩ := openP_diskDisk (x0 := (settleD d0 (min d1 ((d0.2.2.2.2.2.2.length : Nat) : Int)).toNat).1) (x1 := (settleD d0 (min d1 ((d0.2.2.2.2.2.2.length : Nat) : Int)).toNat).2.1) (x2 := (settleD d0 (min d1 ((d0.2.2.2.2.2.2.length : Nat) : Int)).toNat).2.2.1) (x3 := (settleD d0 (min d1 ((d0.2.2.2.2.2.2.length : Nat) : Int)).toNat).2.2.2.1) (x4 := (settleD d0 (min d1 ((d0.2.2.2.2.2.2.length : Nat) : Int)).toNat).2.2.2.2.1) (x5 := ((settleD d0 (min d1 ((d0.2.2.2.2.2.2.length : Nat) : Int)).toNat).2.2.2.2.2.1).1) (x6 := ((settleD d0 (min d1 ((d0.2.2.2.2.2.2.length : Nat) : Int)).toNat).2.2.2.2.2.1).2.1) (x7 := ((settleD d0 (min d1 ((d0.2.2.2.2.2.2.length : Nat) : Int)).toNat).2.2.2.2.2.1).2.2.1) (x8 := ((settleD d0 (min d1 ((d0.2.2.2.2.2.2.length : Nat) : Int)).toNat).2.2.2.2.2.1).2.2.2) (x9 := (settleD d0 (min d1 ((d0.2.2.2.2.2.2.length : Nat) : Int)).toNat).2.2.2.2.2.2) w23_0
          simp only [inK] at q27_3
          simp only [inK] at q27_4
          have q27_r5 := q27_5.rm
          have q27_r6 := q27_6.rm
          have q27_r7 := q27_7.rm
          have q27_r8 := q27_8.rm
          have q27_r9 := q27_9.rm
          refine VO.inv _ (fun _ h => h.parts (i := 124) rfl q27_S [133, 128, 129, 130, 131, 132]) ?_
          refine VO.y rfl (.ld1 133 rfl tk70 rfl (cellsAt_one rfl rfl)) ?_
          refine VO.y rfl (.lenS rfl tsl70) ?_
          refine VO.y rfl (.gtr rfl rfl) ?_
          refine VO.mv ?_
          refine VO.dec (t := 40) rfl (fun hc34 => ?_) (fun hc34 => ?_)
          · -- FFFFT
            refine VO.gy rfl ⟨_, rfl, rfl⟩ (.mv rfl) ?_
            refine VO.gy rfl ⟨_, rfl, rfl⟩ (.nilp rfl) ?_
            refine VO.gy rfl ⟨_, rfl, rfl⟩ (.fa rfl tst72 rfl) ?_
            refine VO.gy rfl ⟨_, rfl, rfl⟩ (.ld1 133 rfl tk70 rfl (cellsAt_one rfl rfl)) ?_
            obtain ⟨x35, hx35⟩ : ∃ z_, ((settleD d0 (min d1 ((d0.2.2.2.2.2.2.length : Nat) : Int)).toNat).2.2.2.2.2.2)[0]? = some z_ := ⟨_, List.getElem?_eq_getElem (by exact fin2_dStart_ok)⟩
            obtain ⟨gg35, oo35, ec35, ea35, hce35, hre35⟩ := (Ow.rd q27_9 (mle_refl _)).elem hx35
            cases ea35
            obtain ⟨q35_A2, q35_c2, rfl, q35_0, q35_1, q35_2, q35_3⟩ := open_diskstep (x0 := x35.1) (x1 := x35.2.1) (x2 := x35.2.2.1) (x3 := x35.2.2.2) hre35
            simp only [inK] at q35_0
            simp only [inK] at q35_1
            have q35_r2 := Rd.room q35_2
            simp only [inK] at q35_3
            refine VO.gy rfl ⟨_, rfl, rfl⟩ (.ixI 0 rfl rfl tsl70 rfl (by exact fin2_dStart_ok)) ?_
            refine VO.gy rfl ⟨_, rfl, rfl⟩ (.fa rfl tst101 rfl) ?_
            refine VO.gy rfl ⟨_, rfl, rfl⟩ (.ld1 132 rfl tk3 rfl (hce35.at1 (j := 0) rfl)) ?_
            refine VO.gy rfl ⟨_, rfl, rfl⟩ (.eql rfl rfl) ?_
            refine VO.y rfl (.pT rfl rfl) ?_
            refine VO.clsP 136 [133, 128, 129, 130, 131, 132] rfl (fun hg36 => (show Ow (.ptr TdiskDisk) _ _ (_, (settleD d0 (min d1 ((d0.2.2.2.2.2.2.length : Nat) : Int)).toNat)) from (mkP_diskDisk ((settleD d0 (min d1 ((d0.2.2.2.2.2.2.length : Nat) : Int)).toNat).1) ((settleD d0 (min d1 ((d0.2.2.2.2.2.2.length : Nat) : Int)).toNat).2.1) ((settleD d0 (min d1 ((d0.2.2.2.2.2.2.length : Nat) : Int)).toNat).2.2.1) ((settleD d0 (min d1 ((d0.2.2.2.2.2.2.length : Nat) : Int)).toNat).2.2.2.1) ((settleD d0 (min d1 ((d0.2.2.2.2.2.2.length : Nat) : Int)).toNat).2.2.2.2.1) (((settleD d0 (min d1 ((d0.2.2.2.2.2.2.length : Nat) : Int)).toNat).2.2.2.2.2.1).1) (((settleD d0 (min d1 ((d0.2.2.2.2.2.2.length : Nat) : Int)).toNat).2.2.2.2.2.1).2.1) (((settleD d0 (min d1 ((d0.2.2.2.2.2.2.length : Nat) : Int)).toNat).2.2.2.2.2.1).2.2.1) (((settleD d0 (min d1 ((d0.2.2.2.2.2.2.length : Nat) : Int)).toNat).2.2.2.2.2.1).2.2.2) ((settleD d0 (min d1 ((d0.2.2.2.2.2.2.length : Nat) : Int)).toNat).2.2.2.2.2.2) hg36 (by simp only [inK]; (exact fin2_dStart_ok)) (by simp only [inK]; (exact fin2_dStart_ok)) (OwnL.ow (Ow.ownl q27_5 rfl mnil) rfl) (OwnL.ow (Ow.ownl q27_6 rfl mnil) rfl) (OwnL.ow (Ow.ownl q27_7 rfl mnil) rfl) (OwnL.ow (Ow.ownl q27_8 rfl mnil) rfl) q27_9))) (fun mc36 ho36 => ?_)
            refine VO.k7 0 1 2 6 8 11 49 ?_
            refine VC.cond rfl (fun hc37 => ?_) (fun hc37 => ?_)
            · -- FFFFTT
              refine VC.rs ?_
              refine VO.mv ?_
              refine VO.y rfl (.nilp rfl) ?_
              refine VO.y rfl (.fa rfl tst72 rfl) ?_
              obtain ⟨q38_E, q38_A5, q38_c5, q38_A6, q38_c6, q38_A7, q38_c7, q38_A8, q38_c8, q38_A9, q38_c9, q38_n5, q38_n6, q38_n7, q38_n8, q38_n9, _, q38_S, q38_3, q38_4, q38_5, q38_6, q38_7, q38_8, q38_9⟩ := openP_diskDisk (x0 := (settleD d0 (min d1 ((d0.2.2.2.2.2.2.length : Nat) : Int)).toNat).1) (x1 := (settleD d0 (min d1 ((d0.2.2.2.2.2.2.length : Nat) : Int)).toNat).2.1) (x2 := (settleD d0 (min d1 ((d0.2.2.2.2.2.2.length : Nat) : Int)).toNat).2.2.1) (x3 := (settleD d0 (min d1 ((d0.2.2.2.2.2.2.length : Nat) : Int)).toNat).2.2.2.1) (x4 := (settleD d0 (min d1 ((d0.2.2.2.2.2.2.length : Nat) : Int)).toNat).2.2.2.2.1) (x5 := ((settleD d0 (min d1 ((d0.2.2.2.2.2.2.length : Nat) : Int)).toNat).2.2.2.2.2.1).1) (x6 := ((settleD d0 (min d1 ((d0.2.2.2.2.2.2.length : Nat) : Int)).toNat).2.2.2.2.2.1).2.1) (x7 := ((settleD d0 (min d1 ((d0.2.2.2.2.2.2.length : Nat) : Int)).toNat).2.2.2.2.2.1).2.2.1) (x8 := ((settleD d0 (min d1 ((d0.2.2.2.2.2.2.length : Nat) : Int)).toNat).2.2.2.2.2.1).2.2.2) (x9 := (settleD d0 (min d1 ((d0.2.2.2.2.2.2.length : Nat) : Int)).toNat).2.2.2.2.2.2) ho36
              simp only [inK] at q38_3
              simp only [inK] at q38_4
              have q38_r5 := q38_5.rm
              have q38_r6 := q38_6.rm
              have q38_r7 := q38_7.rm
              have q38_r8 := q38_8.rm
              have q38_r9 := q38_9.rm
              refine VO.inv _ (fun _ h => h.parts (i := 136) rfl q38_S [144, 139, 140, 141, 142, 143]) ?_
              refine VO.y rfl (.ld1 144 rfl tk70 rfl (cellsAt_one rfl rfl)) ?_
              obtain ⟨x45, hx45⟩ : ∃ z_, ((settleD d0 (min d1 ((d0.2.2.2.2.2.2.length : Nat) : Int)).toNat).2.2.2.2.2.2)[0]? = some z_ := ⟨_, List.getElem?_eq_getElem (by exact fin2_dStart_ok)⟩
              obtain ⟨gg45, oo45, ec45, ea45, hce45, hre45⟩ := (Ow.rd q38_9 (mle_refl _)).elem hx45
              cases ea45
              obtain ⟨q45_A2, q45_c2, rfl, q45_0, q45_1, q45_2, q45_3⟩ := open_diskstep (x0 := x45.1) (x1 := x45.2.1) (x2 := x45.2.2.1) (x3 := x45.2.2.2) hre45
              simp only [inK] at q45_0
              simp only [inK] at q45_1
              have q45_r2 := Rd.room q45_2
              simp only [inK] at q45_3
              refine VO.y rfl (.ixI 0 rfl rfl tsl70 rfl (by exact fin2_dStart_ok)) ?_
              refine VO.y rfl (.ldA 143 rfl tk101 rfl hce45) ?_
              refine VO.alloc 147 rfl tz101 (fun g46 => ?_)
              refine VO.store (k := 4) (c' := [Value.int .i64 (x45.1), Value.int .i64 (x45.2.1), Value.slice q45_A2 (x45.2.2.1.length) (q45_c2), Value.int .i64 (x45.2.2.2)]) 147 rfl rfl (.inl tk101) rfl rfl rfl rfl rfl ?_
              refine VO.kp [147, 144, 139, 140, 141, 142, 143, 0] [(147, mone g46 (.cells [Value.int .i64 (x45.1), Value.int .i64 (x45.2.1), Value.slice q45_A2 (x45.2.2.1.length) (q45_c2), Value.int .i64 (x45.2.2.2)].toArray 101 (0, 0))), (144, mone g0 (.cells [Value.bool ((settleD d0 (min d1 ((d0.2.2.2.2.2.2.length : Nat) : Int)).toNat).1), Value.bool ((settleD d0 (min d1 ((d0.2.2.2.2.2.2.length : Nat) : Int)).toNat).2.1), Value.bool ((settleD d0 (min d1 ((d0.2.2.2.2.2.2.length : Nat) : Int)).toNat).2.2.1), Value.int .i64 ((settleD d0 (min d1 ((d0.2.2.2.2.2.2.length : Nat) : Int)).toNat).2.2.2.1), Value.int .i64 ((settleD d0 (min d1 ((d0.2.2.2.2.2.2.length : Nat) : Int)).toNat).2.2.2.2.1), Value.slice q38_A5 ((((settleD d0 (min d1 ((d0.2.2.2.2.2.2.length : Nat) : Int)).toNat).2.2.2.2.2.1).1).length) (q38_c5), Value.slice q38_A6 ((((settleD d0 (min d1 ((d0.2.2.2.2.2.2.length : Nat) : Int)).toNat).2.2.2.2.2.1).2.1).length) (q38_c6), Value.slice q38_A7 ((((settleD d0 (min d1 ((d0.2.2.2.2.2.2.length : Nat) : Int)).toNat).2.2.2.2.2.1).2.2.1).length) (q38_c7), Value.slice q38_A8 ((((settleD d0 (min d1 ((d0.2.2.2.2.2.2.length : Nat) : Int)).toNat).2.2.2.2.2.1).2.2.2).length) (q38_c8), Value.slice (some ⟨gg45, oo45, none⟩) (((settleD d0 (min d1 ((d0.2.2.2.2.2.2.length : Nat) : Int)).toNat).2.2.2.2.2.2).length) (q38_c9)].toArray q38_E (0, 0))), (139, q38_n5), (140, q38_n6), (141, q38_n7), (142, q38_n8), (143, q38_n9), (0, mout (wm W) (m0))] ?_
              refine VO.k8 0 1 2 6 7 8 11 49 ?_
              refine VC.rs ?_
              have hxe : x45 = x35 := Option.some.inj (hx45.symm.trans hx35)
              subst hxe
              refine VO.y rfl (.fa rfl tst101 rfl) ?_
              refine VO.y rfl (.ld1 147 rfl tk25 rfl (cellsAt_one rfl rfl)) ?_
              refine VO.mv ?_
              refine VO.y rfl (.fa rfl tst101 rfl) ?_
              refine VO.y rfl (.ld1 147 rfl tk25 rfl (cellsAt_one rfl rfl)) ?_
              refine VO.y rfl (.lenS rfl tsl25) ?_
              refine VO.y rfl (.sub rfl rfl rfl ⟨by exact fin2_dStart_ok, by exact fin2_dStart_ok⟩) ?_
              refine VO.y rfl (.minM rfl rfl) ?_
              have hs48 := q45_2.pre (j := ((min d2 (((x45.2.2.1.length : Nat) : Int) - 1)).toNat)) (by exact fin2_dStart_ok)
              refine VO.y rfl (.slHI ((min d2 (((x45.2.2.1.length : Nat) : Int) - 1)).toNat) rfl rfl tsl25 (by exact fin2_dStart_ok) (by exact fin2_dStart_ok)) ?_
              refine VO.y rfl (.fa rfl tst101 rfl) ?_
              refine VO.store (k := 1) (c' := [Value.int .i64 (x45.1), Value.int .i64 (x45.2.1), Value.slice q45_A2 ((min d2 (((x45.2.2.1.length : Nat) : Int) - 1)).toNat) (q45_c2), Value.int .i64 (x45.2.2.2)]) 147 rfl rfl (.inr ⟨tk25, rfl⟩) rfl rfl rfl rfl rfl ?_
              refine VO.k8 0 1 2 6 7 8 11 49 ?_
              refine VC.regD _ 14 [(0, true), (1, true), (2, true), (3, true), (4, true), (5, true), (6, true), (7, true), (8, true), (9, true), (10, true), (12, true), (13, true), (11, false)] follows (by kernel_rfl) (fun _ h => h.sub [147, 144, 143, 0]) ?_
              refine VD.y rfl rfl (.inl rfl) (.mv rfl) ?_
              refine VD.y rfl rfl (.inl rfl) (.fa rfl tst101 rfl) ?_
              refine VD.y rfl rfl (.inl rfl) (.ld1 147 rfl tk3 rfl (cellsAt_one rfl rfl)) ?_
              refine VD.y rfl rfl (.inl rfl) (.mv rfl) ?_
              refine VD.y rfl rfl (.inl rfl) (.fa rfl tst101 rfl) ?_
              refine VD.y rfl rfl (.inl rfl) (.ld1 147 rfl tk3 rfl (cellsAt_one rfl rfl)) ?_
              refine VD.y rfl rfl (.inl rfl) (.nilp rfl) ?_
              refine VD.y rfl rfl (.inl rfl) (.fa rfl tst72 rfl) ?_
              rcases (show x45.2.1 = (0 : Int) ∨ x45.2.1 = (1 : Int) ∨ x45.2.1 = (2 : Int) ∨ x45.2.1 = (3 : Int) from by exact fin2_dStart_ok) with hi49 | hi49 | hi49 | hi49
              · -- FFFFTT0
                refine VD.y rfl rfl (.inl rfl) (.ixa (i := 0) (o := 5) rfl rfl tar69 hi49 rfl rfl) ?_
                refine VD.y rfl rfl (.inl rfl) (.ld1 144 rfl tk25 rfl (cellsAt_one rfl rfl)) ?_
                refine VD.y rfl rfl (.inl rfl) (.ldA 147 rfl tk101 rfl (cellsAt_one rfl rfl)) ?_
                refine VD.y rfl rfl (.inl rfl) (.nilp rfl) ?_
                refine VD.y rfl rfl (.inl rfl) (.fa rfl tst72 rfl) ?_
                refine VD.call 139 rfl rfl (.inl rfl) fnOk84 rfl rfl (fun _ _ h => h.sub [147, 144, 143, 0]) (fun W hW => dDone_ok W (hW.at (i := 139) rfl) (OwnL.ow (Ow.ownl q38_5 rfl mnil) rfl) (mk_diskstep (m := mout (wm W) (q38_n5)) x45.1 x45.2.1 ((x45.2.2.1).take ((min d2 (((x45.2.2.1.length : Nat) : Int) - 1)).toNat)) x45.2.2.2 (by simp only [inK]; (exact fin2_dStart_ok)) (by simp only [inK]; (exact fin2_dStart_ok)) (Rd.mono hs48 (hW.out (i := 139) (j := 143) rfl rfl)) (by simp only [inK]; (exact fin2_dStart_ok))) (by intro h_; omega) (by (have h_ := (start_good (by assumption) ‹_[0]? = some _›).2.2; first | (rw [getF0 ‹_ = (0 : Int)›] at h_; simp only [List.length_take]; omega) | (rw [getF1 ‹_ = (1 : Int)›] at h_; simp only [List.length_take]; omega) | (rw [getF2 ‹_ = (2 : Int)›] at h_; simp only [List.length_take]; omega) | (rw [getF3 ‹_ = (3 : Int)›] at h_; simp only [List.length_take]; omega)))) (fun v50 m50 hv50 => ?_)
                try dsimp only at hv50
                obtain ⟨s50_0, rfl, f50_0⟩ := hv50
                obtain ⟨A50_0, c50_0, eq50_0, l50_0, k50_0⟩ := f50_0.slice
                subst eq50_0
                simp only [maxLen] at k50_0
                refine VD.nil rfl ?_ rfl
                refine VO.y rfl (.ixa (i := 0) (o := 5) rfl rfl tar69 hi49 rfl rfl) ?_
                refine VO.store (k := 1) 144 rfl rfl (.inr ⟨tk25, rfl⟩) rfl rfl rfl rfl rfl ?_
                refine VO.k8 0 1 2 6 7 8 11 49 ?_
                refine outN ?_
                refine VC.rs ?_
                refine VO.mv ?_
                refine VO.mv ?_
                refine VO.mv ?_
                refine VO.mv ?_
                refine VO.y rfl (.nilp rfl) ?_
                refine VO.y rfl (.fa rfl tst72 rfl) ?_
                refine VO.store (k := 1) 144 rfl rfl (.inr ⟨tk70, rfl⟩) rfl rfl rfl rfl rfl ?_
                refine VO.y rfl (.nilp rfl) ?_
                refine VO.y rfl (.fa rfl tst72 rfl) ?_
                refine VO.store (k := 1) 144 rfl rfl (.inr ⟨tk4, rfl⟩) rfl rfl rfl rfl rfl ?_
                refine VO.y rfl (.nilp rfl) ?_
                refine VO.y rfl (.fa rfl tst72 rfl) ?_
                refine VO.store (k := 1) 144 rfl rfl (.inr ⟨tk4, rfl⟩) rfl rfl rfl rfl rfl ?_
                refine VO.y rfl (.nilp rfl) ?_
                refine VO.y rfl (.fa rfl tst72 rfl) ?_
                refine VO.store (k := 1) 144 rfl rfl (.inr ⟨tk3, rfl⟩) rfl rfl rfl rfl rfl ?_
                refine VO.clsP 151 [144, 139, 140, 141, 142] rfl (fun hg51 => (mkP_diskDisk ((settleD d0 (min d1 ((d0.2.2.2.2.2.2.length : Nat) : Int)).toNat).1) false false 0 ((settleD d0 (min d1 ((d0.2.2.2.2.2.2.length : Nat) : Int)).toNat).2.2.2.2.1) (doneB (((settleD d0 (min d1 ((d0.2.2.2.2.2.2.length : Nat) : Int)).toNat).2.2.2.2.2.1).1) (x45.1, x45.2.1, (x45.2.2.1).take ((min d2 (((x45.2.2.1.length : Nat) : Int) - 1)).toNat), x45.2.2.2)) (((settleD d0 (min d1 ((d0.2.2.2.2.2.2.length : Nat) : Int)).toNat).2.2.2.2.2.1).2.1) (((settleD d0 (min d1 ((d0.2.2.2.2.2.2.length : Nat) : Int)).toNat).2.2.2.2.2.1).2.2.1) (((settleD d0 (min d1 ((d0.2.2.2.2.2.2.length : Nat) : Int)).toNat).2.2.2.2.2.1).2.2.2) [] (Seps.nilAt 5 hg51) (by simp only [inK]; (exact fin2_dStart_ok)) (by simp only [inK]; (exact fin2_dStart_ok)) (OwnL.ow (Ow.ownl f50_0 rfl mnil) rfl) (OwnL.ow (Ow.ownl q38_6 rfl mnil) rfl) (OwnL.ow (Ow.ownl q38_7 rfl mnil) rfl) (OwnL.ow (Ow.ownl q38_8 rfl mnil) rfl) (Ow.nil _ _))) (fun mc51 ho51 => ?_)
                refine VO.kp [151, 147, 143, 0] [(151, mc51), (147, mone g46 (.cells [Value.int .i64 (x45.1), Value.int .i64 (x45.2.1), Value.slice q45_A2 ((min d2 (((x45.2.2.1.length : Nat) : Int) - 1)).toNat) (q45_c2), Value.int .i64 (x45.2.2.2)].toArray 101 (0, 0))), (143, q38_n9), (0, mout (wm W) (m0))] ?_
                refine VO.k8 0 1 2 6 7 8 11 49 ?_
                refine VC.rs ?_
                refine VO.as ?_
                refine VO.k8 0 1 2 6 7 8 11 49 ?_
                refine VC.ret ?_
                refine ⟨_, _, res_run (rs := [.tmp 6]) rfl (.tmp rfl .nil), fun W_ hI => out_of (l := [mc51]) hI [151] rfl rfl (mle_refl _) (fun hS_ => ?_)⟩
                dsimp only [packV]
                have hm0_ : ((dStart d0 d1 d2).1 : DdiskDisk) = ((settleD d0 (min d1 ((d0.2.2.2.2.2.2.length : Nat) : Int)).toNat).1, false, false, 0, (settleD d0 (min d1 ((d0.2.2.2.2.2.2.length : Nat) : Int)).toNat).2.2.2.2.1, (doneB (((settleD d0 (min d1 ((d0.2.2.2.2.2.2.length : Nat) : Int)).toNat).2.2.2.2.2.1).1) (x45.1, x45.2.1, (x45.2.2.1).take ((min d2 (((x45.2.2.1.length : Nat) : Int) - 1)).toNat), x45.2.2.2), ((settleD d0 (min d1 ((d0.2.2.2.2.2.2.length : Nat) : Int)).toNat).2.2.2.2.2.1).2), []) := by first | rfl | (exact fin0_dStart_ok)
                refine ⟨?_, ?_⟩
                rotate_left
                · rw [hm0_]; exact (Ow.up ho51 (hS_.1 _ (.head _)))
                all_goals (first | rfl | (exact fin0_dStart_ok))
              · -- FFFFTT1
                refine VD.y rfl rfl (.inl rfl) (.ixa (i := 1) (o := 6) rfl rfl tar69 hi49 rfl rfl) ?_
                refine VD.y rfl rfl (.inl rfl) (.ld1 144 rfl tk25 rfl (cellsAt_one rfl rfl)) ?_
                refine VD.y rfl rfl (.inl rfl) (.ldA 147 rfl tk101 rfl (cellsAt_one rfl rfl)) ?_
                refine VD.y rfl rfl (.inl rfl) (.nilp rfl) ?_
                refine VD.y rfl rfl (.inl rfl) (.fa rfl tst72 rfl) ?_
                refine VD.call 140 rfl rfl (.inl rfl) fnOk84 rfl rfl (fun _ _ h => h.sub [147, 144, 143, 0]) (fun W hW => dDone_ok W (hW.at (i := 140) rfl) (OwnL.ow (Ow.ownl q38_6 rfl mnil) rfl) (mk_diskstep (m := mout (wm W) (q38_n6)) x45.1 x45.2.1 ((x45.2.2.1).take ((min d2 (((x45.2.2.1.length : Nat) : Int) - 1)).toNat)) x45.2.2.2 (by simp only [inK]; (exact fin2_dStart_ok)) (by simp only [inK]; (exact fin2_dStart_ok)) (Rd.mono hs48 (hW.out (i := 140) (j := 143) rfl rfl)) (by simp only [inK]; (exact fin2_dStart_ok))) (by intro h_; omega) (by (have h_ := (start_good (by assumption) ‹_[0]? = some _›).2.2; first | (rw [getF0 ‹_ = (0 : Int)›] at h_; simp only [List.length_take]; omega) | (rw [getF1 ‹_ = (1 : Int)›] at h_; simp only [List.length_take]; omega) | (rw [getF2 ‹_ = (2 : Int)›] at h_; simp only [List.length_take]; omega) | (rw [getF3 ‹_ = (3 : Int)›] at h_; simp only [List.length_take]; omega)))) (fun v52 m52 hv52 => ?_)
                try dsimp only at hv52
                obtain ⟨s52_0, rfl, f52_0⟩ := hv52
                obtain ⟨A52_0, c52_0, eq52_0, l52_0, k52_0⟩ := f52_0.slice
                subst eq52_0
                simp only [maxLen] at k52_0
                refine VD.nil rfl ?_ rfl
                refine VO.y rfl (.ixa (i := 1) (o := 6) rfl rfl tar69 hi49 rfl rfl) ?_
                refine VO.store (k := 1) 144 rfl rfl (.inr ⟨tk25, rfl⟩) rfl rfl rfl rfl rfl ?_
                refine VO.k8 0 1 2 6 7 8 11 49 ?_
                refine outN ?_
                refine VC.rs ?_
                refine VO.mv ?_
                refine VO.mv ?_
                refine VO.mv ?_
                refine VO.mv ?_
                refine VO.y rfl (.nilp rfl) ?_
                refine VO.y rfl (.fa rfl tst72 rfl) ?_
                refine VO.store (k := 1) 144 rfl rfl (.inr ⟨tk70, rfl⟩) rfl rfl rfl rfl rfl ?_
                refine VO.y rfl (.nilp rfl) ?_
                refine VO.y rfl (.fa rfl tst72 rfl) ?_
                refine VO.store (k := 1) 144 rfl rfl (.inr ⟨tk4, rfl⟩) rfl rfl rfl rfl rfl ?_
                refine VO.y rfl (.nilp rfl) ?_
                refine VO.y rfl (.fa rfl tst72 rfl) ?_
                refine VO.store (k := 1) 144 rfl rfl (.inr ⟨tk4, rfl⟩) rfl rfl rfl rfl rfl ?_
                refine VO.y rfl (.nilp rfl) ?_
                refine VO.y rfl (.fa rfl tst72 rfl) ?_
                refine VO.store (k := 1) 144 rfl rfl (.inr ⟨tk3, rfl⟩) rfl rfl rfl rfl rfl ?_
                refine VO.clsP 153 [144, 139, 140, 141, 142] rfl (fun hg53 => (mkP_diskDisk ((settleD d0 (min d1 ((d0.2.2.2.2.2.2.length : Nat) : Int)).toNat).1) false false 0 ((settleD d0 (min d1 ((d0.2.2.2.2.2.2.length : Nat) : Int)).toNat).2.2.2.2.1) (((settleD d0 (min d1 ((d0.2.2.2.2.2.2.length : Nat) : Int)).toNat).2.2.2.2.2.1).1) (doneB (((settleD d0 (min d1 ((d0.2.2.2.2.2.2.length : Nat) : Int)).toNat).2.2.2.2.2.1).2.1) (x45.1, x45.2.1, (x45.2.2.1).take ((min d2 (((x45.2.2.1.length : Nat) : Int) - 1)).toNat), x45.2.2.2)) (((settleD d0 (min d1 ((d0.2.2.2.2.2.2.length : Nat) : Int)).toNat).2.2.2.2.2.1).2.2.1) (((settleD d0 (min d1 ((d0.2.2.2.2.2.2.length : Nat) : Int)).toNat).2.2.2.2.2.1).2.2.2) [] (Seps.nilAt 5 hg53) (by simp only [inK]; (exact fin2_dStart_ok)) (by simp only [inK]; (exact fin2_dStart_ok)) (OwnL.ow (Ow.ownl q38_5 rfl mnil) rfl) (OwnL.ow (Ow.ownl f52_0 rfl mnil) rfl) (OwnL.ow (Ow.ownl q38_7 rfl mnil) rfl) (OwnL.ow (Ow.ownl q38_8 rfl mnil) rfl) (Ow.nil _ _))) (fun mc53 ho53 => ?_)
                refine VO.kp [153, 147, 143, 0] [(153, mc53), (147, mone g46 (.cells [Value.int .i64 (x45.1), Value.int .i64 (x45.2.1), Value.slice q45_A2 ((min d2 (((x45.2.2.1.length : Nat) : Int) - 1)).toNat) (q45_c2), Value.int .i64 (x45.2.2.2)].toArray 101 (0, 0))), (143, q38_n9), (0, mout (wm W) (m0))] ?_
                refine VO.k8 0 1 2 6 7 8 11 49 ?_
                refine VC.rs ?_
                refine VO.as ?_
                refine VO.k8 0 1 2 6 7 8 11 49 ?_
                refine VC.ret ?_
                refine ⟨_, _, res_run (rs := [.tmp 6]) rfl (.tmp rfl .nil), fun W_ hI => out_of (l := [mc53]) hI [153] rfl rfl (mle_refl _) (fun hS_ => ?_)⟩
                dsimp only [packV]
                have hm0_ : ((dStart d0 d1 d2).1 : DdiskDisk) = ((settleD d0 (min d1 ((d0.2.2.2.2.2.2.length : Nat) : Int)).toNat).1, false, false, 0, (settleD d0 (min d1 ((d0.2.2.2.2.2.2.length : Nat) : Int)).toNat).2.2.2.2.1, (((settleD d0 (min d1 ((d0.2.2.2.2.2.2.length : Nat) : Int)).toNat).2.2.2.2.2.1).1, doneB (((settleD d0 (min d1 ((d0.2.2.2.2.2.2.length : Nat) : Int)).toNat).2.2.2.2.2.1).2.1) (x45.1, x45.2.1, (x45.2.2.1).take ((min d2 (((x45.2.2.1.length : Nat) : Int) - 1)).toNat), x45.2.2.2), ((settleD d0 (min d1 ((d0.2.2.2.2.2.2.length : Nat) : Int)).toNat).2.2.2.2.2.1).2.2), []) := by first | rfl | (exact fin0_dStart_ok)
                refine ⟨?_, ?_⟩
                rotate_left
                · rw [hm0_]; exact (Ow.up ho53 (hS_.1 _ (.head _)))
                all_goals (first | rfl | (exact fin0_dStart_ok))
              · -- FFFFTT2
                refine VD.y rfl rfl (.inl rfl) (.ixa (i := 2) (o := 7) rfl rfl tar69 hi49 rfl rfl) ?_
                refine VD.y rfl rfl (.inl rfl) (.ld1 144 rfl tk25 rfl (cellsAt_one rfl rfl)) ?_
                refine VD.y rfl rfl (.inl rfl) (.ldA 147 rfl tk101 rfl (cellsAt_one rfl rfl)) ?_
                refine VD.y rfl rfl (.inl rfl) (.nilp rfl) ?_
                refine VD.y rfl rfl (.inl rfl) (.fa rfl tst72 rfl) ?_
                refine VD.call 141 rfl rfl (.inl rfl) fnOk84 rfl rfl (fun _ _ h => h.sub [147, 144, 143, 0]) (fun W hW => dDone_ok W (hW.at (i := 141) rfl) (OwnL.ow (Ow.ownl q38_7 rfl mnil) rfl) (mk_diskstep (m := mout (wm W) (q38_n7)) x45.1 x45.2.1 ((x45.2.2.1).take ((min d2 (((x45.2.2.1.length : Nat) : Int) - 1)).toNat)) x45.2.2.2 (by simp only [inK]; (exact fin2_dStart_ok)) (by simp only [inK]; (exact fin2_dStart_ok)) (Rd.mono hs48 (hW.out (i := 141) (j := 143) rfl rfl)) (by simp only [inK]; (exact fin2_dStart_ok))) (by intro h_; omega) (by (have h_ := (start_good (by assumption) ‹_[0]? = some _›).2.2; first | (rw [getF0 ‹_ = (0 : Int)›] at h_; simp only [List.length_take]; omega) | (rw [getF1 ‹_ = (1 : Int)›] at h_; simp only [List.length_take]; omega) | (rw [getF2 ‹_ = (2 : Int)›] at h_; simp only [List.length_take]; omega) | (rw [getF3 ‹_ = (3 : Int)›] at h_; simp only [List.length_take]; omega)))) (fun v54 m54 hv54 => ?_)
                try dsimp only at hv54
                obtain ⟨s54_0, rfl, f54_0⟩ := hv54
                obtain ⟨A54_0, c54_0, eq54_0, l54_0, k54_0⟩ := f54_0.slice
                subst eq54_0
                simp only [maxLen] at k54_0
                refine VD.nil rfl ?_ rfl
                refine VO.y rfl (.ixa (i := 2) (o := 7) rfl rfl tar69 hi49 rfl rfl) ?_
                refine VO.store (k := 1) 144 rfl rfl (.inr ⟨tk25, rfl⟩) rfl rfl rfl rfl rfl ?_
                refine VO.k8 0 1 2 6 7 8 11 49 ?_
                refine outN ?_
                refine VC.rs ?_
                refine VO.mv ?_
                refine VO.mv ?_
                refine VO.mv ?_
                refine VO.mv ?_
                refine VO.y rfl (.nilp rfl) ?_
                refine VO.y rfl (.fa rfl tst72 rfl) ?_
                refine VO.store (k := 1) 144 rfl rfl (.inr ⟨tk70, rfl⟩) rfl rfl rfl rfl rfl ?_
                refine VO.y rfl (.nilp rfl) ?_
                refine VO.y rfl (.fa rfl tst72 rfl) ?_
                refine VO.store (k := 1) 144 rfl rfl (.inr ⟨tk4, rfl⟩) rfl rfl rfl rfl rfl ?_
                refine VO.y rfl (.nilp rfl) ?_
                refine VO.y rfl (.fa rfl tst72 rfl) ?_
                refine VO.store (k := 1) 144 rfl rfl (.inr ⟨tk4, rfl⟩) rfl rfl rfl rfl rfl ?_
                refine VO.y rfl (.nilp rfl) ?_
                refine VO.y rfl (.fa rfl tst72 rfl) ?_
                refine VO.store (k := 1) 144 rfl rfl (.inr ⟨tk3, rfl⟩) rfl rfl rfl rfl rfl ?_
                refine VO.clsP 155 [144, 139, 140, 141, 142] rfl (fun hg55 => (mkP_diskDisk ((settleD d0 (min d1 ((d0.2.2.2.2.2.2.length : Nat) : Int)).toNat).1) false false 0 ((settleD d0 (min d1 ((d0.2.2.2.2.2.2.length : Nat) : Int)).toNat).2.2.2.2.1) (((settleD d0 (min d1 ((d0.2.2.2.2.2.2.length : Nat) : Int)).toNat).2.2.2.2.2.1).1) (((settleD d0 (min d1 ((d0.2.2.2.2.2.2.length : Nat) : Int)).toNat).2.2.2.2.2.1).2.1) (doneB (((settleD d0 (min d1 ((d0.2.2.2.2.2.2.length : Nat) : Int)).toNat).2.2.2.2.2.1).2.2.1) (x45.1, x45.2.1, (x45.2.2.1).take ((min d2 (((x45.2.2.1.length : Nat) : Int) - 1)).toNat), x45.2.2.2)) (((settleD d0 (min d1 ((d0.2.2.2.2.2.2.length : Nat) : Int)).toNat).2.2.2.2.2.1).2.2.2) [] (Seps.nilAt 5 hg55) (by simp only [inK]; (exact fin2_dStart_ok)) (by simp only [inK]; (exact fin2_dStart_ok)) (OwnL.ow (Ow.ownl q38_5 rfl mnil) rfl) (OwnL.ow (Ow.ownl q38_6 rfl mnil) rfl) (OwnL.ow (Ow.ownl f54_0 rfl mnil) rfl) (OwnL.ow (Ow.ownl q38_8 rfl mnil) rfl) (Ow.nil _ _))) (fun mc55 ho55 => ?_)
                refine VO.kp [155, 147, 143, 0] [(155, mc55), (147, mone g46 (.cells [Value.int .i64 (x45.1), Value.int .i64 (x45.2.1), Value.slice q45_A2 ((min d2 (((x45.2.2.1.length : Nat) : Int) - 1)).toNat) (q45_c2), Value.int .i64 (x45.2.2.2)].toArray 101 (0, 0))), (143, q38_n9), (0, mout (wm W) (m0))] ?_
                refine VO.k8 0 1 2 6 7 8 11 49 ?_
                refine VC.rs ?_
                refine VO.as ?_
                refine VO.k8 0 1 2 6 7 8 11 49 ?_
                refine VC.ret ?_
                refine ⟨_, _, res_run (rs := [.tmp 6]) rfl (.tmp rfl .nil), fun W_ hI => out_of (l := [mc55]) hI [155] rfl rfl (mle_refl _) (fun hS_ => ?_)⟩
                dsimp only [packV]
                have hm0_ : ((dStart d0 d1 d2).1 : DdiskDisk) = ((settleD d0 (min d1 ((d0.2.2.2.2.2.2.length : Nat) : Int)).toNat).1, false, false, 0, (settleD d0 (min d1 ((d0.2.2.2.2.2.2.length : Nat) : Int)).toNat).2.2.2.2.1, (((settleD d0 (min d1 ((d0.2.2.2.2.2.2.length : Nat) : Int)).toNat).2.2.2.2.2.1).1, ((settleD d0 (min d1 ((d0.2.2.2.2.2.2.length : Nat) : Int)).toNat).2.2.2.2.2.1).2.1, doneB (((settleD d0 (min d1 ((d0.2.2.2.2.2.2.length : Nat) : Int)).toNat).2.2.2.2.2.1).2.2.1) (x45.1, x45.2.1, (x45.2.2.1).take ((min d2 (((x45.2.2.1.length : Nat) : Int) - 1)).toNat), x45.2.2.2), ((settleD d0 (min d1 ((d0.2.2.2.2.2.2.length : Nat) : Int)).toNat).2.2.2.2.2.1).2.2.2), []) := by first | rfl | (exact fin0_dStart_ok)
                refine ⟨?_, ?_⟩
                rotate_left
                · rw [hm0_]; exact (Ow.up ho55 (hS_.1 _ (.head _)))
                all_goals (first | rfl | (exact fin0_dStart_ok))
              · -- FFFFTT3
                refine VD.y rfl rfl (.inl rfl) (.ixa (i := 3) (o := 8) rfl rfl tar69 hi49 rfl rfl) ?_
                refine VD.y rfl rfl (.inl rfl) (.ld1 144 rfl tk25 rfl (cellsAt_one rfl rfl)) ?_
                refine VD.y rfl rfl (.inl rfl) (.ldA 147 rfl tk101 rfl (cellsAt_one rfl rfl)) ?_
                refine VD.y rfl rfl (.inl rfl) (.nilp rfl) ?_
                refine VD.y rfl rfl (.inl rfl) (.fa rfl tst72 rfl) ?_
                refine VD.call 142 rfl rfl (.inl rfl) fnOk84 rfl rfl (fun _ _ h => h.sub [147, 144, 143, 0]) (fun W hW => dDone_ok W (hW.at (i := 142) rfl) (OwnL.ow (Ow.ownl q38_8 rfl mnil) rfl) (mk_diskstep (m := mout (wm W) (q38_n8)) x45.1 x45.2.1 ((x45.2.2.1).take ((min d2 (((x45.2.2.1.length : Nat) : Int) - 1)).toNat)) x45.2.2.2 (by simp only [inK]; (exact fin2_dStart_ok)) (by simp only [inK]; (exact fin2_dStart_ok)) (Rd.mono hs48 (hW.out (i := 142) (j := 143) rfl rfl)) (by simp only [inK]; (exact fin2_dStart_ok))) (by intro h_; omega) (by (have h_ := (start_good (by assumption) ‹_[0]? = some _›).2.2; first | (rw [getF0 ‹_ = (0 : Int)›] at h_; simp only [List.length_take]; omega) | (rw [getF1 ‹_ = (1 : Int)›] at h_; simp only [List.length_take]; omega) | (rw [getF2 ‹_ = (2 : Int)›] at h_; simp only [List.length_take]; omega) | (rw [getF3 ‹_ = (3 : Int)›] at h_; simp only [List.length_take]; omega)))) (fun v56 m56 hv56 => ?_)
                try dsimp only at hv56
                obtain ⟨s56_0, rfl, f56_0⟩ := hv56
                obtain ⟨A56_0, c56_0, eq56_0, l56_0, k56_0⟩ := f56_0.slice
                subst eq56_0
                simp only [maxLen] at k56_0
                refine VD.nil rfl ?_ rfl
                refine VO.y rfl (.ixa (i := 3) (o := 8) rfl rfl tar69 hi49 rfl rfl) ?_
                refine VO.store (k := 1) 144 rfl rfl (.inr ⟨tk25, rfl⟩) rfl rfl rfl rfl rfl ?_
                refine VO.k8 0 1 2 6 7 8 11 49 ?_
                refine outN ?_
                refine VC.rs ?_
                refine VO.mv ?_
                refine VO.mv ?_
                refine VO.mv ?_
                refine VO.mv ?_
                refine VO.y rfl (.nilp rfl) ?_
                refine VO.y rfl (.fa rfl tst72 rfl) ?_
                refine VO.store (k := 1) 144 rfl rfl (.inr ⟨tk70, rfl⟩) rfl rfl rfl rfl rfl ?_
                refine VO.y rfl (.nilp rfl) ?_
                refine VO.y rfl (.fa rfl tst72 rfl) ?_
                refine VO.store (k := 1) 144 rfl rfl (.inr ⟨tk4, rfl⟩) rfl rfl rfl rfl rfl ?_
                refine VO.y rfl (.nilp rfl) ?_
                refine VO.y rfl (.fa rfl tst72 rfl) ?_
                refine VO.store (k := 1) 144 rfl rfl (.inr ⟨tk4, rfl⟩) rfl rfl rfl rfl rfl ?_
                refine VO.y rfl (.nilp rfl) ?_
                refine VO.y rfl (.fa rfl tst72 rfl) ?_
                refine VO.store (k := 1) 144 rfl rfl (.inr ⟨tk3, rfl⟩) rfl rfl rfl rfl rfl ?_
                refine VO.clsP 157 [144, 139, 140, 141, 142] rfl (fun hg57 => (mkP_diskDisk ((settleD d0 (min d1 ((d0.2.2.2.2.2.2.length : Nat) : Int)).toNat).1) false false 0 ((settleD d0 (min d1 ((d0.2.2.2.2.2.2.length : Nat) : Int)).toNat).2.2.2.2.1) (((settleD d0 (min d1 ((d0.2.2.2.2.2.2.length : Nat) : Int)).toNat).2.2.2.2.2.1).1) (((settleD d0 (min d1 ((d0.2.2.2.2.2.2.length : Nat) : Int)).toNat).2.2.2.2.2.1).2.1) (((settleD d0 (min d1 ((d0.2.2.2.2.2.2.length : Nat) : Int)).toNat).2.2.2.2.2.1).2.2.1) (doneB (((settleD d0 (min d1 ((d0.2.2.2.2.2.2.length : Nat) : Int)).toNat).2.2.2.2.2.1).2.2.2) (x45.1, x45.2.1, (x45.2.2.1).take ((min d2 (((x45.2.2.1.length : Nat) : Int) - 1)).toNat), x45.2.2.2)) [] (Seps.nilAt 5 hg57) (by simp only [inK]; (exact fin2_dStart_ok)) (by simp only [inK]; (exact fin2_dStart_ok)) (OwnL.ow (Ow.ownl q38_5 rfl mnil) rfl) (OwnL.ow (Ow.ownl q38_6 rfl mnil) rfl) (OwnL.ow (Ow.ownl q38_7 rfl mnil) rfl) (OwnL.ow (Ow.ownl f56_0 rfl mnil) rfl) (Ow.nil _ _))) (fun mc57 ho57 => ?_)
                refine VO.kp [157, 147, 143, 0] [(157, mc57), (147, mone g46 (.cells [Value.int .i64 (x45.1), Value.int .i64 (x45.2.1), Value.slice q45_A2 ((min d2 (((x45.2.2.1.length : Nat) : Int) - 1)).toNat) (q45_c2), Value.int .i64 (x45.2.2.2)].toArray 101 (0, 0))), (143, q38_n9), (0, mout (wm W) (m0))] ?_
                refine VO.k8 0 1 2 6 7 8 11 49 ?_
                refine VC.rs ?_
                refine VO.as ?_
                refine VO.k8 0 1 2 6 7 8 11 49 ?_
                refine VC.ret ?_
                refine ⟨_, _, res_run (rs := [.tmp 6]) rfl (.tmp rfl .nil), fun W_ hI => out_of (l := [mc57]) hI [157] rfl rfl (mle_refl _) (fun hS_ => ?_)⟩
                dsimp only [packV]
                have hm0_ : ((dStart d0 d1 d2).1 : DdiskDisk) = ((settleD d0 (min d1 ((d0.2.2.2.2.2.2.length : Nat) : Int)).toNat).1, false, false, 0, (settleD d0 (min d1 ((d0.2.2.2.2.2.2.length : Nat) : Int)).toNat).2.2.2.2.1, (((settleD d0 (min d1 ((d0.2.2.2.2.2.2.length : Nat) : Int)).toNat).2.2.2.2.2.1).1, ((settleD d0 (min d1 ((d0.2.2.2.2.2.2.length : Nat) : Int)).toNat).2.2.2.2.2.1).2.1, ((settleD d0 (min d1 ((d0.2.2.2.2.2.2.length : Nat) : Int)).toNat).2.2.2.2.2.1).2.2.1, doneB (((settleD d0 (min d1 ((d0.2.2.2.2.2.2.length : Nat) : Int)).toNat).2.2.2.2.2.1).2.2.2) (x45.1, x45.2.1, (x45.2.2.1).take ((min d2 (((x45.2.2.1.length : Nat) : Int) - 1)).toNat), x45.2.2.2)), []) := by first | rfl | (exact fin0_dStart_ok)
                refine ⟨?_, ?_⟩
                rotate_left
                · rw [hm0_]; exact (Ow.up ho57 (hS_.1 _ (.head _)))
                all_goals (first | rfl | (exact fin0_dStart_ok))
            · -- FFFFTF
              refine VC.skip ?_
              refine outN ?_
              refine VC.rs ?_
              refine VO.mv ?_
              refine VO.mv ?_
              refine VO.mv ?_
              refine VO.mv ?_
              refine VO.y rfl (.nilp rfl) ?_
              refine VO.y rfl (.fa rfl tst72 rfl) ?_
              obtain ⟨q58_E, q58_A5, q58_c5, q58_A6, q58_c6, q58_A7, q58_c7, q58_A8, q58_c8, q58_A9, q58_c9, q58_n5, q58_n6, q58_n7, q58_n8, q58_n9, _, q58_S, q58_3, q58_4, q58_5, q58_6, q58_7, q58_8, q58_9⟩ := openP_diskDisk (x0 := (settleD d0 (min d1 ((d0.2.2.2.2.2.2.length : Nat) : Int)).toNat).1) (x1 := (settleD d0 (min d1 ((d0.2.2.2.2.2.2.length : Nat) : Int)).toNat).2.1) (x2 := (settleD d0 (min d1 ((d0.2.2.2.2.2.2.length : Nat) : Int)).toNat).2.2.1) (x3 := (settleD d0 (min d1 ((d0.2.2.2.2.2.2.length : Nat) : Int)).toNat).2.2.2.1) (x4 := (settleD d0 (min d1 ((d0.2.2.2.2.2.2.length : Nat) : Int)).toNat).2.2.2.2.1) (x5 := ((settleD d0 (min d1 ((d0.2.2.2.2.2.2.length : Nat) : Int)).toNat).2.2.2.2.2.1).1) (x6 := ((settleD d0 (min d1 ((d0.2.2.2.2.2.2.length : Nat) : Int)).toNat).2.2.2.2.2.1).2.1) (x7 := ((settleD d0 (min d1 ((d0.2.2.2.2.2.2.length : Nat) : Int)).toNat).2.2.2.2.2.1).2.2.1) (x8 := ((settleD d0 (min d1 ((d0.2.2.2.2.2.2.length : Nat) : Int)).toNat).2.2.2.2.2.1).2.2.2) (x9 := (settleD d0 (min d1 ((d0.2.2.2.2.2.2.length : Nat) : Int)).toNat).2.2.2.2.2.2) ho36
              simp only [inK] at q58_3
              simp only [inK] at q58_4
              have q58_r5 := q58_5.rm
              have q58_r6 := q58_6.rm
              have q58_r7 := q58_7.rm
              have q58_r8 := q58_8.rm
              have q58_r9 := q58_9.rm
              refine VO.inv _ (fun _ h => h.parts (i := 136) rfl q58_S [164, 159, 160, 161, 162, 163]) ?_
              refine VO.store (k := 1) 164 rfl rfl (.inr ⟨tk70, rfl⟩) rfl rfl rfl rfl rfl ?_
              refine VO.y rfl (.nilp rfl) ?_
              refine VO.y rfl (.fa rfl tst72 rfl) ?_
              refine VO.store (k := 1) 164 rfl rfl (.inr ⟨tk4, rfl⟩) rfl rfl rfl rfl rfl ?_
              refine VO.y rfl (.nilp rfl) ?_
              refine VO.y rfl (.fa rfl tst72 rfl) ?_
              refine VO.store (k := 1) 164 rfl rfl (.inr ⟨tk4, rfl⟩) rfl rfl rfl rfl rfl ?_
              refine VO.y rfl (.nilp rfl) ?_
              refine VO.y rfl (.fa rfl tst72 rfl) ?_
              refine VO.store (k := 1) 164 rfl rfl (.inr ⟨tk3, rfl⟩) rfl rfl rfl rfl rfl ?_
              refine VO.clsP 165 [164, 159, 160, 161, 162] rfl (fun hg65 => (mkP_diskDisk ((settleD d0 (min d1 ((d0.2.2.2.2.2.2.length : Nat) : Int)).toNat).1) false false 0 ((settleD d0 (min d1 ((d0.2.2.2.2.2.2.length : Nat) : Int)).toNat).2.2.2.2.1) (((settleD d0 (min d1 ((d0.2.2.2.2.2.2.length : Nat) : Int)).toNat).2.2.2.2.2.1).1) (((settleD d0 (min d1 ((d0.2.2.2.2.2.2.length : Nat) : Int)).toNat).2.2.2.2.2.1).2.1) (((settleD d0 (min d1 ((d0.2.2.2.2.2.2.length : Nat) : Int)).toNat).2.2.2.2.2.1).2.2.1) (((settleD d0 (min d1 ((d0.2.2.2.2.2.2.length : Nat) : Int)).toNat).2.2.2.2.2.1).2.2.2) [] (Seps.nilAt 5 hg65) (by simp only [inK]; (exact fin2_dStart_ok)) (by simp only [inK]; (exact fin2_dStart_ok)) (OwnL.ow (Ow.ownl q58_5 rfl mnil) rfl) (OwnL.ow (Ow.ownl q58_6 rfl mnil) rfl) (OwnL.ow (Ow.ownl q58_7 rfl mnil) rfl) (OwnL.ow (Ow.ownl q58_8 rfl mnil) rfl) (Ow.nil _ _))) (fun mc65 ho65 => ?_)
              refine VO.kp [165, 0] [(165, mc65), (0, mout (wm W) (m0))] ?_
              refine VO.k7 0 1 2 6 8 11 49 ?_
              refine VC.rs ?_
              refine VO.as ?_
              refine VO.k7 0 1 2 6 8 11 49 ?_
              refine VC.ret ?_
              refine ⟨_, _, res_run (rs := [.tmp 6]) rfl (.tmp rfl .nil), fun W_ hI => out_of (l := [mc65]) hI [165] rfl rfl (mle_refl _) (fun hS_ => ?_)⟩
              dsimp only [packV]
              have hm0_ : ((dStart d0 d1 d2).1 : DdiskDisk) = ((settleD d0 (min d1 ((d0.2.2.2.2.2.2.length : Nat) : Int)).toNat).1, false, false, 0, (settleD d0 (min d1 ((d0.2.2.2.2.2.2.length : Nat) : Int)).toNat).2.2.2.2.1, ((settleD d0 (min d1 ((d0.2.2.2.2.2.2.length : Nat) : Int)).toNat).2.2.2.2.2.1), []) := by first | rfl | (exact fin0_dStart_ok)
              refine ⟨?_, ?_⟩
              rotate_left
              · rw [hm0_]; exact (Ow.up ho65 (hS_.1 _ (.head _)))
              all_goals (first | rfl | (exact fin0_dStart_ok))
          · -- FFFFF
            refine VO.gN ?_
            refine VO.gN ?_
            refine VO.gN ?_
            refine VO.gN ?_
            refine VO.gN ?_
            refine VO.gN ?_
            refine VO.gN ?_
            refine VO.gN ?_
            refine VO.y rfl (.pF rfl rfl) ?_
            refine VO.clsP 166 [133, 128, 129, 130, 131, 132] rfl (fun hg66 => (show Ow (.ptr TdiskDisk) _ _ (_, (settleD d0 (min d1 ((d0.2.2.2.2.2.2.length : Nat) : Int)).toNat)) from (mkP_diskDisk ((settleD d0 (min d1 ((d0.2.2.2.2.2.2.length : Nat) : Int)).toNat).1) ((settleD d0 (min d1 ((d0.2.2.2.2.2.2.length : Nat) : Int)).toNat).2.1) ((settleD d0 (min d1 ((d0.2.2.2.2.2.2.length : Nat) : Int)).toNat).2.2.1) ((settleD d0 (min d1 ((d0.2.2.2.2.2.2.length : Nat) : Int)).toNat).2.2.2.1) ((settleD d0 (min d1 ((d0.2.2.2.2.2.2.length : Nat) : Int)).toNat).2.2.2.2.1) (((settleD d0 (min d1 ((d0.2.2.2.2.2.2.length : Nat) : Int)).toNat).2.2.2.2.2.1).1) (((settleD d0 (min d1 ((d0.2.2.2.2.2.2.length : Nat) : Int)).toNat).2.2.2.2.2.1).2.1) (((settleD d0 (min d1 ((d0.2.2.2.2.2.2.length : Nat) : Int)).toNat).2.2.2.2.2.1).2.2.1) (((settleD d0 (min d1 ((d0.2.2.2.2.2.2.length : Nat) : Int)).toNat).2.2.2.2.2.1).2.2.2) ((settleD d0 (min d1 ((d0.2.2.2.2.2.2.length : Nat) : Int)).toNat).2.2.2.2.2.2) hg66 (by simp only [inK]; (exact fin2_dStart_ok)) (by simp only [inK]; (exact fin2_dStart_ok)) (OwnL.ow (Ow.ownl q27_5 rfl mnil) rfl) (OwnL.ow (Ow.ownl q27_6 rfl mnil) rfl) (OwnL.ow (Ow.ownl q27_7 rfl mnil) rfl) (OwnL.ow (Ow.ownl q27_8 rfl mnil) rfl) q27_9))) (fun mc66 ho66 => ?_)
            refine VO.k7 0 1 2 6 8 11 49 ?_
            refine VC.condF rfl ?_
            refine VC.skip ?_
            refine outN ?_
            refine VC.rs ?_
            refine VO.mv ?_
            refine VO.mv ?_
            refine VO.mv ?_
            refine VO.mv ?_
            refine VO.y rfl (.nilp rfl) ?_
            refine VO.y rfl (.fa rfl tst72 rfl) ?_
            obtain ⟨q67_E, q67_A5, q67_c5, q67_A6, q67_c6, q67_A7, q67_c7, q67_A8, q67_c8, q67_A9, q67_c9, q67_n5, q67_n6, q67_n7, q67_n8, q67_n9, _, q67_S, q67_3, q67_4, q67_5, q67_6, q67_7, q67_8, q67_9⟩ := openP_diskDisk (x0 := (settleD d0 (min d1 ((d0.2.2.2.2.2.2.length : Nat) : Int)).toNat).1) (x1 := (settleD d0 (min d1 ((d0.2.2.2.2.2.2.length : Nat) : Int)).toNat).2.1) (x2 := (settleD d0 (min d1 ((d0.2.2.2.2.2.2.length : Nat) : Int)).toNat).2.2.1) (x3 := (settleD d0 (min d1 ((d0.2.2.2.2.2.2.length : Nat) : Int)).toNat).2.2.2.1) (x4 := (settleD d0 (min d1 ((d0.2.2.2.2.2.2.length : Nat) : Int)).toNat).2.2.2.2.1) (x5 := ((settleD d0 (min d1 ((d0.2.2.2.2.2.2.length : Nat) : Int)).toNat).2.2.2.2.2.1).1) (x6 := ((settleD d0 (min d1 ((d0.2.2.2.2.2.2.length : Nat) : Int)).toNat).2.2.2.2.2.1).2.1) (x7 := ((settleD d0 (min d1 ((d0.2.2.2.2.2.2.length : Nat) : Int)).toNat).2.2.2.2.2.1).2.2.1) (x8 := ((settleD d0 (min d1 ((d0.2.2.2.2.2.2.length : Nat) : Int)).toNat).2.2.2.2.2.1).2.2.2) (x9 := (settleD d0 (min d1 ((d0.2.2.2.2.2.2.length : Nat) : Int)).toNat).2.2.2.2.2.2) ho66
            simp only [inK] at q67_3
            simp only [inK] at q67_4
            have q67_r5 := q67_5.rm
            have q67_r6 := q67_6.rm
            have q67_r7 := q67_7.rm
            have q67_r8 := q67_8.rm
            have q67_r9 := q67_9.rm
            refine VO.inv _ (fun _ h => h.parts (i := 166) rfl q67_S [173, 168, 169, 170, 171, 172]) ?_
            refine VO.store (k := 1) 173 rfl rfl (.inr ⟨tk70, rfl⟩) rfl rfl rfl rfl rfl ?_
            refine VO.y rfl (.nilp rfl) ?_
            refine VO.y rfl (.fa rfl tst72 rfl) ?_
            refine VO.store (k := 1) 173 rfl rfl (.inr ⟨tk4, rfl⟩) rfl rfl rfl rfl rfl ?_
            refine VO.y rfl (.nilp rfl) ?_
            refine VO.y rfl (.fa rfl tst72 rfl) ?_
            refine VO.store (k := 1) 173 rfl rfl (.inr ⟨tk4, rfl⟩) rfl rfl rfl rfl rfl ?_
            refine VO.y rfl (.nilp rfl) ?_
            refine VO.y rfl (.fa rfl tst72 rfl) ?_
            refine VO.store (k := 1) 173 rfl rfl (.inr ⟨tk3, rfl⟩) rfl rfl rfl rfl rfl ?_
            refine VO.clsP 174 [173, 168, 169, 170, 171] rfl (fun hg74 => (mkP_diskDisk ((settleD d0 (min d1 ((d0.2.2.2.2.2.2.length : Nat) : Int)).toNat).1) false false 0 ((settleD d0 (min d1 ((d0.2.2.2.2.2.2.length : Nat) : Int)).toNat).2.2.2.2.1) (((settleD d0 (min d1 ((d0.2.2.2.2.2.2.length : Nat) : Int)).toNat).2.2.2.2.2.1).1) (((settleD d0 (min d1 ((d0.2.2.2.2.2.2.length : Nat) : Int)).toNat).2.2.2.2.2.1).2.1) (((settleD d0 (min d1 ((d0.2.2.2.2.2.2.length : Nat) : Int)).toNat).2.2.2.2.2.1).2.2.1) (((settleD d0 (min d1 ((d0.2.2.2.2.2.2.length : Nat) : Int)).toNat).2.2.2.2.2.1).2.2.2) [] (Seps.nilAt 5 hg74) (by simp only [inK]; (exact fin2_dStart_ok)) (by simp only [inK]; (exact fin2_dStart_ok)) (OwnL.ow (Ow.ownl q67_5 rfl mnil) rfl) (OwnL.ow (Ow.ownl q67_6 rfl mnil) rfl) (OwnL.ow (Ow.ownl q67_7 rfl mnil) rfl) (OwnL.ow (Ow.ownl q67_8 rfl mnil) rfl) (Ow.nil _ _))) (fun mc74 ho74 => ?_)
            refine VO.kp [174, 0] [(174, mc74), (0, mout (wm W) (m0))] ?_
            refine VO.k7 0 1 2 6 8 11 49 ?_
            refine VC.rs ?_
            refine VO.as ?_
            refine VO.k7 0 1 2 6 8 11 49 ?_
            refine VC.ret ?_
            refine ⟨_, _, res_run (rs := [.tmp 6]) rfl (.tmp rfl .nil), fun W_ hI => out_of (l := [mc74]) hI [174] rfl rfl (mle_refl _) (fun hS_ => ?_)⟩
            dsimp only [packV]
            have hm0_ : ((dStart d0 d1 d2).1 : DdiskDisk) = ((settleD d0 (min d1 ((d0.2.2.2.2.2.2.length : Nat) : Int)).toNat).1, false, false, 0, (settleD d0 (min d1 ((d0.2.2.2.2.2.2.length : Nat) : Int)).toNat).2.2.2.2.1, ((settleD d0 (min d1 ((d0.2.2.2.2.2.2.length : Nat) : Int)).toNat).2.2.2.2.2.1), []) := by first | rfl | (exact fin0_dStart_ok)
            refine ⟨?_, ?_⟩
            rotate_left
            · rw [hm0_]; exact (Ow.up ho74 (hS_.1 _ (.head _)))
            all_goals (first | rfl | (exact fin0_dStart_ok))
end
section
set_option linter.unusedVariables false
set_option linter.unusedSimpArgs false
set_option maxRecDepth 4000
theorem dReadN_ok (W : World) (d1 : Int) (h1 : inK .i64 d1) : CallR Try.prog 71 [.pointer none, .int .i64 d1] W (mnil) (fun v m' => ∃ (s0 : Value), v = .tuple #[s0, .int .i64 (1)] ∧ Ow (.sl .byte) m' [s0] ([])) := by
 have h1' := h1; simp only [inK] at h1'
 refine CallR.ofA (n := 18) Try.func71 rfl rfl rfl ?_
 refine VC.rs (VO.as (VO.as (VO.k4 0 1 4 5 (VC.seq (VC.rs (VO.mv ?_))))))
 refine VO.callN 101 rfl fnOk75 rfl (fun W hW => dWrongN_ok W ) (fun v1 m1 hv1 => ?_)
 subst hv1
 refine VO.as (VO.k5 0 1 4 5 6 (VC.rs (VO.mv (VO.y rfl (.neq rfl rfl) ?_))))
 refine VO.kp [0] [(0, wm W)] ?_
 refine VO.k6 0 1 4 5 6 10 ?_
 refine VC.cond rfl (fun hc2 => ?_) (fun hc2 => ?_)
 · refine VC.rs (VO.mv (VO.as (VO.as (VO.k6 0 1 4 5 6 10 (VC.ret (outR ?_))))))
   refine ⟨_, _, res_run (rs := [.tmp 4, .tmp 5]) rfl (.tmp rfl (.tmp rfl .nil)), fun W_ hI => out_of (l := []) hI [] rfl rfl (mle_refl _) (fun hS_ => ?_)⟩
   dsimp only [packV]
   have he0 : ([] : Ty.Den (.sl .byte)) = [] := by first | rfl | (simp [*]; done)
   refine ⟨Value.slice none (0) (0), ?_, ?_⟩
   rotate_left
   · rw [he0]; exact (Ow.nil _ _)
   all_goals (first | rfl | (simp [*]; done))
 exact absurd hc2 (by decide)
end
section
set_option linter.unusedVariables false
abbrev DAct := Dlaw05Act
def smallA (l : List DAct) : Prop := (∀ a ∈ l, a.2.2.2.2.length ≤ 400) ∧ l.length ≤ 100
instance (l : List DAct) : Decidable (smallA l) := by unfold smallA; infer_instance
structure Fz (n : Int) (d : DDisk) : Prop where
  ok : okD d
  made : d.1 = true
  has : d.2.2.1 = true
  sum : d.2.2.2.2.1 + d.2.2.2.1 = n
  off : d.2.1 = true → d.2.2.2.1 = 0
theorem Fz.burn {n : Int} {d : DDisk} (h : Fz n d) (ho : d.2.1 = false) : Fz n (burnD d).1 ∧ ((burnD d).2 = true ↔ (burnD d).1.2.1 = false) ∧ ((burnD d).2 = true → (burnD d).1.2.1 = false) := by
  have hk := burn_ok h.ok
  obtain ⟨h1, h2, h3, h4, h5⟩ := h
  unfold burnD at hk ⊢
  rw [if_pos h3] at hk ⊢
  split
  · rename_i h0
    rw [if_pos h0] at hk
    exact ⟨⟨hk, h2, h3, h4, fun _ => h0⟩, by simp, by simp⟩
  · rename_i h0
    rw [if_neg h0] at hk
    exact ⟨⟨hk, h2, h3, by dsimp only; omega, fun q => absurd (ho.symm.trans q) (by decide)⟩, by simp [ho], fun _ => ho⟩
theorem Fz.add {n : Int} {d : DDisk} {s : DStep} (h : Fz n d) (hk : okD (addP d s)) : Fz n (addP d s) := ⟨hk, h.made, h.has, h.sum, h.off⟩
theorem Fz.settle {n : Int} {d : DDisk} (k : Nat) (h : Fz n d) : Fz n (settleD d k) := ⟨settle_ok k h.ok, h.made, h.has, h.sum, h.off⟩
structure Fs (n : Int) (d d' : DDisk) (e : Int) : Prop where
  fz : Fz n d'
  off : e = 6 ↔ d'.2.1 = true
  arg : e = 2 → d' = d
theorem Fs.wrong {n : Int} {d : DDisk} (h : Fz n d) (hw : ¬ wrongD d = 0) : Fs n d d (wrongD d) := by
  have hm : ¬ d.1 = false := by rw [h.made]; decide
  unfold wrongD at hw ⊢
  rw [if_neg hm] at hw ⊢
  by_cases ho : d.2.1 = true
  · rw [if_pos ho]; exact ⟨h, by simp [ho], fun q => by cases q⟩
  · rw [if_neg ho] at hw; exact absurd rfl hw
theorem on_of {n : Int} {d : DDisk} (h : Fz n d) (hw : wrongD d = 0) : d.2.1 = false := by
  have hm : ¬ d.1 = false := by rw [h.made]; decide
  unfold wrongD at hw
  rw [if_neg hm] at hw
  by_cases ho : d.2.1 = true
  · rw [if_pos ho] at hw; cases hw
  · simpa using ho
theorem Fs.go {m : Nat} : ∀ {n : Int} {d : DDisk} {f : Int} {b : Bytes}, Fz n d → inF f → d.2.1 = false → Fs n d (writeGo m d f b).1 (writeGo m d f b).2 := by
  induction m with
  | zero => intro n d f b h _ ho; exact ⟨h, by simp [writeGo, ho], fun _ => rfl⟩
  | succ m ih =>
    intro n d f b h hf ho
    obtain ⟨k1, k2, k3⟩ := h.burn ho
    unfold writeGo
    split
    · exact ⟨h, by simp [ho], fun _ => rfl⟩
    · rename_i h0
      split
      · rename_i hb
        have e1 : b.take 64 = b.take (min b.length 64) := by
          by_cases h0 : b.length ≤ 64
          · rw [Nat.min_eq_left h0, List.take_of_length_le h0, List.take_of_length_le (Nat.le_refl _)]
          · rw [Nat.min_eq_right (by omega)]
        have hs := step_ok (m := min b.length 64) h.ok hf (by omega) rfl
        rw [← e1] at hs
        have hq := ih (b := b.drop 64) (k1.add hs) hf (k3 hb)
        refine ⟨hq.fz, hq.off, fun q => ?_⟩
        exfalso
        have : ∀ (m : Nat) (d : DDisk) (b : Bytes), (writeGo m d f b).2 = 0 ∨ (writeGo m d f b).2 = 6 := by
          intro m
          induction m with
          | zero => intro d b; exact .inl rfl
          | succ m ih => intro d b; unfold writeGo; split
                         · exact .inl rfl
                         · split
                           · exact ih _ _
                           · exact .inr rfl
        rcases this m _ (b.drop 64) with e | e <;> rw [e] at q <;> cases q
      · rename_i hb
        refine ⟨k1, ?_, fun q => by cases q⟩
        have : (burnD d).1.2.1 = true := by
          cases hc : (burnD d).1.2.1 with
          | true => rfl
          | false => exact absurd (k2.2 hc) hb
        simp [this]
theorem Fs.write {n : Int} {d : DDisk} {f : Int} {b : Bytes} (h : Fz n d) : Fs n d (dWrite d f b).1 (dWrite d f b).2 := by
  unfold dWrite
  split
  · rename_i hw; exact Fs.wrong h hw
  · rename_i hw
    have ho := on_of h (Decidable.not_not.1 hw)
    split
    · exact ⟨h, by simp [ho], fun _ => rfl⟩
    · rename_i hf; exact Fs.go h (Decidable.not_not.1 hf) ho
theorem Fs.cut {n : Int} {d : DDisk} {f k : Int} (h : Fz n d) : Fs n d (dCut d f k).1 (dCut d f k).2 := by
  have hk := cut_ok (f := f) (n := k) h.ok
  unfold dCut at hk ⊢
  split
  · rename_i hw; exact Fs.wrong h hw
  · rename_i hw
    have ho := on_of h (Decidable.not_not.1 hw)
    obtain ⟨k1, k2, k3⟩ := h.burn ho
    split
    · exact ⟨h, by simp [ho], fun _ => rfl⟩
    · rename_i hf
      rw [if_neg hw, if_neg hf] at hk
      split
      · rename_i hb
        rw [if_pos hb] at hk
        exact ⟨k1.add hk, by show (0 : Int) = 6 ↔ (burnD d).1.2.1 = true; simp [k3 hb], fun q => by cases q⟩
      · rename_i hb
        refine ⟨k1, ?_, fun q => by cases q⟩
        have : (burnD d).1.2.1 = true := by
          cases hc : (burnD d).1.2.1 with
          | true => rfl
          | false => exact absurd (k2.2 hc) hb
        simp [this]
theorem Fs.sync {n : Int} {d : DDisk} (h : Fz n d) : Fs n d (dSync d).1 (dSync d).2 := by
  unfold dSync
  split
  · rename_i hw; exact Fs.wrong h hw
  · rename_i hw
    have ho := on_of h (Decidable.not_not.1 hw)
    obtain ⟨k1, k2, k3⟩ := h.burn ho
    split
    · rename_i hb
      exact ⟨k1.settle _, by show (0 : Int) = 6 ↔ (burnD d).1.2.1 = true; simp [k3 hb], fun q => by cases q⟩
    · rename_i hb
      refine ⟨k1, ?_, fun q => by cases q⟩
      have : (burnD d).1.2.1 = true := by
        cases hc : (burnD d).1.2.1 with
        | true => rfl
        | false => exact absurd (k2.2 hc) hb
      simp [this]
end
section
set_option linter.unusedVariables false
abbrev DRaw := Dref05Raw
abbrev DRDisk := Dref05Disk
def stepOf (r : DRaw) : DStep := (if r.2.1 = true then 1 else 0, r.1, r.2.2.2, r.2.2.1)
def rawOf (s : DStep) : DRaw := (s.2.1, decide (s.1 = 1), s.2.2.2, s.2.2.1)
@[simp] theorem raw_step (r : DRaw) : rawOf (stepOf r) = r := by obtain ⟨f, c, t, b⟩ := r; cases c <;> rfl
theorem step_raw {s : DStep} (h : s.1 = 0 ∨ s.1 = 1) : stepOf (rawOf s) = s := by
  obtain ⟨k, f, b, t⟩ := s
  rcases h with h | h <;> (dsimp only at h; subst h; rfl)
@[simp] theorem raws_steps (l : List DRaw) : (l.map stepOf).map rawOf = l := by
  rw [List.map_map]
  conv => rhs; rw [← List.map_id l]
  congr 1; funext r; exact raw_step r
@[simp] theorem comp_rs : rawOf ∘ stepOf = id := funext raw_step
theorem steps_raws : ∀ {l : List DStep} {q : Dur}, goodL q l → (l.map rawOf).map stepOf = l
  | [], _, _ => rfl
  | s :: l, q, h => by rw [List.map_cons, List.map_cons, step_raw h.1.1, steps_raws h.2]
def fromR (r : DRDisk) : DDisk := (r.1, !r.2.2.2.1, r.2.2.2.2.1, if r.2.2.2.2.1 = true then r.2.2.2.2.2.1 else 0, r.2.2.2.2.2.2, r.2.1, r.2.2.1.map stepOf)
def toR (d : DDisk) (x : Int) : DRDisk := (d.1, d.2.2.2.2.2.1, d.2.2.2.2.2.2.map rawOf, !d.2.1, d.2.2.1, if d.2.2.1 = true then d.2.2.2.1 else x, d.2.2.2.2.1)
def nf (d : DDisk) : Prop := d.2.2.1 = false → d.2.2.2.1 = 0
theorem from_to {d : DDisk} {x : Int} (h : okD d) (hn : nf d) : fromR (toR d x) = d := by
  obtain ⟨m, o, f, n, c, q, l⟩ := d
  have h1 := steps_raws h.1
  unfold nf at hn
  dsimp only at h1 hn
  unfold fromR toR
  dsimp only
  rw [h1]
  cases f
  · simp [hn rfl]
  · simp
theorem to_from (r : DRDisk) : toR (fromR r) r.2.2.2.2.2.1 = r := by
  obtain ⟨m, q, l, o, h, n, c⟩ := r
  unfold fromR toR
  dsimp only
  rw [raws_steps]
  cases h <;> simp
theorem nf_from (r : DRDisk) : nf (fromR r) := by
  unfold nf fromR
  dsimp only
  intro h; rw [h]; rfl
def okR (r : DRDisk) : Prop := okD (fromR r)
theorem okR_to {d : DDisk} {x : Int} (h : okD d) (hn : nf d) : okR (toR d x) := by unfold okR; rw [from_to h hn]; exact h
section
variable {d : DDisk}
theorem nf_burn (h : nf d) : nf (burnD d).1 := by
  unfold burnD
  split
  · split
    · exact h
    · rename_i h1 _; intro q; exact absurd (h1.symm.trans q) (by decide)
  · exact h
theorem nf_add {s : DStep} (h : nf d) : nf (addP d s) := h
theorem nf_settle {k : Nat} (h : nf d) : nf (settleD d k) := h
theorem nf_go {f : Int} : ∀ (n : Nat) {d : DDisk} {b : Bytes}, nf d → nf (writeGo n d f b).1
  | 0, d, b, h => h
  | n + 1, d, b, h => by
    unfold writeGo
    split
    · exact h
    · split
      · exact nf_go n (nf_add (nf_burn h))
      · exact nf_burn h
theorem nf_write {f : Int} {b : Bytes} (h : nf d) : nf (dWrite d f b).1 := by
  unfold dWrite; split
  · exact h
  · split
    · exact h
    · exact nf_go _ h
theorem nf_cut {f n : Int} (h : nf d) : nf (dCut d f n).1 := by
  unfold dCut; split
  · exact h
  · split
    · exact h
    · split
      · exact nf_add (nf_burn h)
      · exact nf_burn h
theorem nf_sync (h : nf d) : nf (dSync d).1 := by
  unfold dSync; split
  · exact h
  · split
    · exact nf_settle (nf_burn h)
    · exact nf_burn h
theorem nf_fuse {n : Int} (h : nf d) : nf (dFuse d n).1 := by
  unfold dFuse; split
  · exact h
  · split
    · exact h
    · intro q; cases q
theorem nf_pull (h : nf d) : nf (dPull d).1 := by unfold dPull; split <;> exact h
theorem nf_start {k t : Int} (h : nf d) : nf (dStart d k t).1 := by
  unfold dStart; split
  · exact h
  · split
    · exact h
    · intro _; rfl
end
def doneR (b : Bytes) (r : DRaw) : Bytes := if r.2.1 = true then b.take r.2.2.1.toNat else b ++ r.2.2.2
theorem doneR_is (b : Bytes) (r : DRaw) : doneR b r = doneB b (stepOf r) := by
  obtain ⟨f, c, t, y⟩ := r
  cases c <;> rfl
theorem get_step {l : List DRaw} {k : Nat} {r : DRaw} (h : l[k]? = some r) : (l.map stepOf)[k]? = some (stepOf r) := by rw [List.getElem?_map, h]; rfl
def keepR (d : DDisk) (n : Nat) : DDisk := (d.1, d.2.1, d.2.2.1, d.2.2.2.1, d.2.2.2.2.1, play d.2.2.2.2.2.1 (d.2.2.2.2.2.2.take n), d.2.2.2.2.2.2)
def newR : DRDisk := (true, ([], [], [], []), [], true, false, 0, 0)
theorem from_newR : fromR newR = newD := rfl
theorem stepF {r : DRaw} {i : Int} (h : r.1 = i) : (stepOf r).2.1 = i := h
theorem stepC {r : DRaw} (h : r.2.1 = true) : (stepOf r).1 = 1 := if_pos h
theorem rstep_off {r : DRDisk} (h : r.2.2.2.2.1 = true) (h0 : r.2.2.2.2.2.1 = 0) : toR (burnD (fromR r)).1 r.2.2.2.2.2.1 = (r.1, r.2.1, r.2.2.1, false, r.2.2.2.2.1, r.2.2.2.2.2.1, r.2.2.2.2.2.2) ∧ (burnD (fromR r)).2 = false := by
  obtain ⟨m, q, l, o, f, n, c⟩ := r
  dsimp only at h h0
  subst h; subst h0
  simp [burnD, fromR, toR]
theorem rstep_dec {r : DRDisk} (h : r.2.2.2.2.1 = true) (h0 : ¬ r.2.2.2.2.2.1 = 0) : toR (burnD (fromR r)).1 r.2.2.2.2.2.1 = (r.1, r.2.1, r.2.2.1, r.2.2.2.1, r.2.2.2.2.1, r.2.2.2.2.2.1 - 1, r.2.2.2.2.2.2 + 1) ∧ (burnD (fromR r)).2 = true := by
  obtain ⟨m, q, l, o, f, n, c⟩ := r
  dsimp only at h h0
  subst h
  simp [burnD, fromR, toR, h0]
theorem rstep_free {r : DRDisk} (h : r.2.2.2.2.1 = false) : toR (burnD (fromR r)).1 r.2.2.2.2.2.1 = (r.1, r.2.1, r.2.2.1, r.2.2.2.1, r.2.2.2.2.1, r.2.2.2.2.2.1, r.2.2.2.2.2.2 + 1) ∧ (burnD (fromR r)).2 = true := by
  obtain ⟨m, q, l, o, f, n, c⟩ := r
  dsimp only at h
  subst h
  simp [burnD, fromR, toR]
theorem toR_left {X D : DDisk} {x : Int} (h : X.2.2.1 = D.2.2.1) : toR X (toR D x).2.2.2.2.2.1 = toR X x := by
  unfold toR
  dsimp only
  rw [h]
  cases D.2.2.1 <;> simp
theorem burn_fused (d : DDisk) : (burnD d).1.2.2.1 = d.2.2.1 := by
  unfold burnD
  split
  · split <;> rfl
  · rfl
theorem burn_left {D : DDisk} {x : Int} : toR (burnD D).1 (toR D x).2.2.2.2.2.1 = toR (burnD D).1 x := toR_left (burn_fused D)
theorem burn_yes {b : Bool} (h : ¬ ¬ (if b = true then (0 : Int) else 6) = 0) : b = true := by cases b <;> simp_all
theorem burn_not {b : Bool} (h : ¬ (if b = true then (0 : Int) else 6) = 0) : ¬ b = true := by cases b <;> simp_all
theorem piece_eq {l : Bytes} {a M : Nat} (h : M = min l.length (a + 64)) : (l.take M).drop a = (l.drop a).take 64 := by
  rw [List.drop_take, h]
  by_cases h0 : l.length ≤ a + 64
  · rw [Nat.min_eq_left h0, List.take_of_length_le (by simp), List.take_of_length_le (by simp; omega)]
  · rw [Nat.min_eq_right (by omega)]; congr 1; omega
theorem take_min (b : Bytes) : b.take 64 = b.take (min b.length 64) := by
  by_cases h0 : b.length ≤ 64
  · rw [Nat.min_eq_left h0, List.take_of_length_le h0, List.take_of_length_le (Nat.le_refl _)]
  · rw [Nat.min_eq_right (by omega)]
theorem drop_min (b : Bytes) : b.drop 64 = b.drop (min b.length 64) := by
  by_cases h0 : b.length ≤ 64
  · rw [Nat.min_eq_left h0, List.drop_of_length_le h0, List.drop_of_length_le (Nat.le_refl _)]
  · rw [Nat.min_eq_right (by omega)]
section
variable {r : DRDisk} {D : DDisk} {x f : Int} {p q : Bytes}
theorem rwrite_next (hr : r = toR D x) (hfr : fromR r = D) (hp : p = q) :
    (((toR (burnD (fromR r)).1 r.2.2.2.2.2.1).1, (toR (burnD (fromR r)).1 r.2.2.2.2.2.1).2.1, (toR (burnD (fromR r)).1 r.2.2.2.2.2.1).2.2.1 ++ [(f, false, 0, p)], (toR (burnD (fromR r)).1 r.2.2.2.2.2.1).2.2.2) : DRDisk) = toR (addP (burnD D).1 (0, f, q, 0)) x := by
  rw [hfr, hr, burn_left, hp]
  unfold toR addP
  dsimp only
  rw [List.map_append]
  rfl
theorem rcut_next {n : Int} (hr : r = toR D x) (hfr : fromR r = D) :
    (((toR (burnD (fromR r)).1 r.2.2.2.2.2.1).1, (toR (burnD (fromR r)).1 r.2.2.2.2.2.1).2.1, (toR (burnD (fromR r)).1 r.2.2.2.2.2.1).2.2.1 ++ [(f, true, n, [])], (toR (burnD (fromR r)).1 r.2.2.2.2.2.1).2.2.2) : DRDisk) = toR (addP (burnD D).1 (1, f, [], n)) x := by
  rw [hfr, hr, burn_left]
  unfold toR addP
  dsimp only
  rw [List.map_append]
  rfl
theorem rwrite_off (hr : r = toR D x) (hfr : fromR r = D) : toR (burnD D).1 x = toR (burnD (fromR r)).1 r.2.2.2.2.2.1 := by rw [hfr, hr, burn_left]
end
section
variable {D : DDisk} {f : Int} {l : Bytes} {a n : Nat} {P : DDisk × Int}
theorem rwrite_ok (h : okD D) (hn : nf D) (hf : inF f) (hb : 0 < (l.drop a).length) : okD (addP (burnD D).1 (0, f, (l.drop a).take 64, 0)) ∧ nf (addP (burnD D).1 (0, f, (l.drop a).take 64, 0)) := by
  refine ⟨?_, nf_burn hn⟩
  rw [take_min]; exact step_ok h hf hb rfl
theorem rwrite_step (hp : P = writeGo n D f (l.drop a)) (hn : (l.drop a).length ≤ n) (hb : 0 < (l.drop a).length) (h : (burnD D).2 = true) : P = writeGo (n - 1) (addP (burnD D).1 (0, f, (l.drop a).take 64, 0)) f (l.drop (a + 64)) := by
  rw [write_step hp hn hb h rfl, ← take_min, ← drop_min, List.drop_drop]
theorem rwrite_w (h : okD D) (hb : 0 < (l.drop a).length) : wD (addP (burnD D).1 (0, f, (l.drop a).take 64, 0)) + 3 * (l.drop (a + 64)).length ≤ wD D + 3 * (l.drop a).length := by
  rw [← List.drop_drop, take_min, drop_min]; exact step_w h hb rfl
end
theorem wait_len {r : DRDisk} (h : okD (fromR r)) : (toR (burnD (fromR r)).1 r.2.2.2.2.2.1).2.2.1.length ≤ wD (fromR r) + 1 := by
  have h1 := burn_w h
  have h2 := len_w (burnD (fromR r)).1
  show (((burnD (fromR r)).1.2.2.2.2.2.2).map rawOf).length ≤ _
  rw [List.length_map]; omega
theorem rsync_next {X : DDisk} {x : Int} (h : okD X) (hn : nf X) {n : Nat} (hl : n = (toR X x).2.2.1.length) :
    (((toR (keepR (fromR (toR X x)) n) (toR X x).2.2.2.2.2.1).1, (toR (keepR (fromR (toR X x)) n) (toR X x).2.2.2.2.2.1).2.1, [], (toR (keepR (fromR (toR X x)) n) (toR X x).2.2.2.2.2.1).2.2.2) : DRDisk) = toR (settleD X X.2.2.2.2.2.2.length) x := by
  have hl2 : n = X.2.2.2.2.2.2.length := by rw [hl]; exact List.length_map ..
  rw [from_to h hn, toR_left (X := keepR X n) (D := X) rfl, hl2]
  unfold toR keepR settleD
  dsimp only
  rw [List.drop_length, List.map_nil]
section
variable {r : DRDisk} {k t : Int} {x : DRaw}
theorem rstart_pend (hk : 0 ≤ k) : (settleD (fromR r) (min k (fromR r).2.2.2.2.2.2.length).toNat).2.2.2.2.2.2 = (r.2.2.1.map stepOf).drop k.toNat := by
  show (r.2.2.1.map stepOf).drop (min k ((r.2.2.1.map stepOf).length : Int)).toNat = _
  by_cases h : k ≤ ((r.2.2.1.map stepOf).length : Int)
  · rw [show min k ((r.2.2.1.map stepOf).length : Int) = k by omega]
  · rw [List.drop_of_length_le (by omega), List.drop_of_length_le (by omega)]
theorem rstart_dur (hk : 0 ≤ k) : (settleD (fromR r) (min k (fromR r).2.2.2.2.2.2.length).toNat).2.2.2.2.2.1 = play r.2.1 ((r.2.2.1.map stepOf).take k.toNat) := by
  show play r.2.1 ((r.2.2.1.map stepOf).take (min k ((r.2.2.1.map stepOf).length : Int)).toNat) = _
  by_cases h : k ≤ ((r.2.2.1.map stepOf).length : Int)
  · rw [show min k ((r.2.2.1.map stepOf).length : Int) = k by omega]
  · rw [List.take_of_length_le (by omega), List.take_of_length_le (by omega)]
theorem rkeep_wait (n : Nat) (y : Int) : (toR (keepR (fromR r) n) y).2.2.1 = r.2.2.1 := raws_steps _
theorem rstart_go (h : ¬ r.1 = false) (h2 : r.2.2.2.1 = false) (h3 : ¬ k < 0) (h4 : ¬ t < 0) :
    toR (dStart (fromR r) k t).1 r.2.2.2.2.2.1 = (r.1, tornQ (settleD (fromR r) (min k (fromR r).2.2.2.2.2.2.length).toNat) t, [], true, false, r.2.2.2.2.2.1, r.2.2.2.2.2.2) ∧ (dStart (fromR r) k t).2 = 0 := by
  rw [start_go (d := fromR r) h (by show (!r.2.2.2.1) = true; rw [h2]; rfl) h3 h4]
  exact ⟨rfl, rfl⟩
theorem rtorn_nil (hk : 0 ≤ k) (h : ¬ k < ((r.2.2.1).length : Int)) : tornQ (settleD (fromR r) (min k (fromR r).2.2.2.2.2.2.length).toNat) t = play r.2.1 ((r.2.2.1.map stepOf).take k.toNat) := by
  rw [torn_nil (by rw [rstart_pend hk]; simp only [List.length_drop, List.length_map]; omega), rstart_dur hk]
theorem rtorn_at (hk : 0 ≤ k) (hx : r.2.2.1[k.toNat]? = some x) : (settleD (fromR r) (min k (fromR r).2.2.2.2.2.2.length).toNat).2.2.2.2.2.2[0]? = some (stepOf x) := by
  rw [rstart_pend hk, List.getElem?_drop, Nat.add_zero]; exact get_step hx
theorem rtorn_no (hk : 0 ≤ k) (hx : r.2.2.1[k.toNat]? = some x) (h : x.2.1 = true) : tornQ (settleD (fromR r) (min k (fromR r).2.2.2.2.2.2.length).toNat) t = play r.2.1 ((r.2.2.1.map stepOf).take k.toNat) := by
  rw [torn_no (rtorn_at hk hx) (by rw [stepC h]; decide), rstart_dur hk]
theorem rtorn_yes (hk : 0 ≤ k) (hx : r.2.2.1[k.toNat]? = some x) (h : x.2.1 = false) : tornQ (settleD (fromR r) (min k (fromR r).2.2.2.2.2.2.length).toNat) t =
    setF (play r.2.1 ((r.2.2.1.map stepOf).take k.toNat)) x.1 (doneR (getF (play r.2.1 ((r.2.2.1.map stepOf).take k.toNat)) x.1) (x.1, false, 0, x.2.2.2.take (min t ((x.2.2.2.length : Int) - 1)).toNat)) := by
  rw [torn_yes (rtorn_at hk hx) (by unfold stepOf; rw [if_neg (by rw [h]; decide)]), rstart_dur hk]
  obtain ⟨f, c, y, b⟩ := x
  dsimp only at h
  subst h
  rfl
theorem rstart_good (h : okD (fromR r)) (hx : r.2.2.1[k.toNat]? = some x) : inF x.1 ∧ (x.2.1 = false → 1 ≤ x.2.2.2.length) ∧ (getF (play r.2.1 ((r.2.2.1.map stepOf).take k.toNat)) x.1).length + x.2.2.2.length ≤ wD (fromR r) := by
  obtain ⟨h1, h2⟩ := good_at h.1 (get_step hx)
  have h3 := play_room (q0 := r.2.1) rfl (get_step hx)
  refine ⟨h1.2.1, fun hc => (h1.2.2.1 (by unfold stepOf; rw [if_neg (by rw [hc]; decide)])).1, ?_⟩
  have h4 : sizeQ r.2.1 + sizeL (r.2.2.1.map stepOf) ≤ wD (fromR r) := by unfold wD; show _ ≤ sizeQ r.2.1 + sizeL (r.2.2.1.map stepOf) + _ + _; omega
  exact Nat.le_trans h3 h4
end
theorem rpull_go {r : DRDisk} (h : ¬ ¬ wrongD (fromR r) = 0) : toR (dPull (fromR r)).1 r.2.2.2.2.2.1 = (r.1, r.2.1, r.2.2.1, false, r.2.2.2.2.1, r.2.2.2.2.2.1, r.2.2.2.2.2.2) := by
  unfold dPull
  rw [if_neg h]
  obtain ⟨m, q, l, o, f, n, c⟩ := r
  cases f <;> simp [toR, fromR]
theorem on_T {r : DRDisk} (h : ¬ r.1 = false) : r.2.2.2.1 = decide ((fromR r).1 = true ∧ (fromR r).2.1 = false) := by
  obtain ⟨m, q, l, o, f, n, c⟩ := r
  dsimp only at h
  cases m
  · exact absurd rfl h
  · cases o <;> rfl
theorem on_F {r : DRDisk} (h : ¬ ¬ r.1 = false) : false = decide ((fromR r).1 = true ∧ (fromR r).2.1 = false) := by
  obtain ⟨m, q, l, o, f, n, c⟩ := r
  dsimp only at h
  cases m
  · rfl
  · exact absurd (by decide) h
theorem room_le {α : Type} {A B : List α} {w N m : Nat} (h : A.length + B.length ≤ w) (hw : w ≤ N) : A.length + (B.take m).length ≤ N := by rw [List.length_take]; omega
theorem is_on {r : DRDisk} (h : r.2.2.2.1 = true) : (fromR r).2.1 = false := by show (!r.2.2.2.1) = false; rw [h]; rfl
theorem keep_left {r : DRDisk} {n : Nat} : (toR (keepR (fromR r) n) r.2.2.2.2.2.1).2.2.2.2.2.1 = r.2.2.2.2.2.1 := by
  obtain ⟨m, q, l, o, f, x, c⟩ := r
  cases f <;> rfl
theorem rstart_tail {r : DRDisk} {n : Nat} {Q Q' : Dur} (hQ : Q = Q') : ((r.1, Q, [], true, false, r.2.2.2.2.2.1, r.2.2.2.2.2.2) : DRDisk) = ((toR (keepR (fromR r) n) r.2.2.2.2.2.1).1, Q', [], true, false, (toR (keepR (fromR r) n) r.2.2.2.2.2.1).2.2.2.2.2.1, (toR (keepR (fromR r) n) r.2.2.2.2.2.1).2.2.2.2.2.2) := by
  rw [keep_left, hQ]; rfl
theorem keep_is {r : DRDisk} {n k : Nat} {b0 b1 b2 b3 : Bytes} (hb : (b0, b1, b2, b3) = play r.2.1 ((r.2.2.1.map stepOf).take k)) (hk : k = n ∨ (k ≤ n ∧ r.2.2.1.length ≤ k)) :
    toR (keepR (fromR r) n) r.2.2.2.2.2.1 = (r.1, (b0, b1, b2, b3), r.2.2.1, r.2.2.2.1, r.2.2.2.2.1, r.2.2.2.2.2.1, r.2.2.2.2.2.2) := by
  have h : play r.2.1 ((r.2.2.1.map stepOf).take n) = (b0, b1, b2, b3) := by
    rw [hb]
    rcases hk with rfl | ⟨h1, h2⟩
    · rfl
    · rw [List.take_of_length_le (by rw [List.length_map]; omega), List.take_of_length_le (by rw [List.length_map]; omega)]
  obtain ⟨m, q, l, o, f, x, c⟩ := r
  dsimp only at h
  unfold toR keepR fromR
  dsimp only
  rw [h, raws_steps]
  cases f <;> simp
theorem ro_write {r : DRDisk} {f : Int} {b : Bytes} (h : okR r) : okR (toR (dWrite (fromR r) f b).1 r.2.2.2.2.2.1) := okR_to (write_ok h) (nf_write (nf_from r))
theorem rw_write {r : DRDisk} {f : Int} {b : Bytes} (h : okR r) : wD (fromR (toR (dWrite (fromR r) f b).1 r.2.2.2.2.2.1)) ≤ wD (fromR r) + 3 * b.length + 1 := by rw [from_to (write_ok h) (nf_write (nf_from r))]; exact write_w h
theorem ro_cut {r : DRDisk} {f n : Int} (h : okR r) : okR (toR (dCut (fromR r) f n).1 r.2.2.2.2.2.1) := okR_to (cut_ok h) (nf_cut (nf_from r))
theorem rw_cut {r : DRDisk} {f n : Int} (h : okR r) : wD (fromR (toR (dCut (fromR r) f n).1 r.2.2.2.2.2.1)) ≤ wD (fromR r) + 2 := by rw [from_to (cut_ok h) (nf_cut (nf_from r))]; exact cut_w h
theorem ro_sync {r : DRDisk}  (h : okR r) : okR (toR (dSync (fromR r)).1 r.2.2.2.2.2.1) := okR_to (sync_ok h) (nf_sync (nf_from r))
theorem rw_sync {r : DRDisk}  (h : okR r) : wD (fromR (toR (dSync (fromR r)).1 r.2.2.2.2.2.1)) ≤ wD (fromR r) + 1 := by rw [from_to (sync_ok h) (nf_sync (nf_from r))]; exact sync_w h
theorem ro_fuse {r : DRDisk} {n : Int} (h : okR r) : okR (toR (dFuse (fromR r) n).1 r.2.2.2.2.2.1) := okR_to (fuse_ok h) (nf_fuse (nf_from r))
theorem rw_fuse {r : DRDisk} {n : Int} (h : okR r) : wD (fromR (toR (dFuse (fromR r) n).1 r.2.2.2.2.2.1)) ≤ wD (fromR r) := by rw [from_to (fuse_ok h) (nf_fuse (nf_from r))]; exact Nat.le_of_eq (fuse_w _ _)
theorem ro_pull {r : DRDisk}  (h : okR r) : okR (toR (dPull (fromR r)).1 r.2.2.2.2.2.1) := okR_to (pull_ok h) (nf_pull (nf_from r))
theorem rw_pull {r : DRDisk}  (h : okR r) : wD (fromR (toR (dPull (fromR r)).1 r.2.2.2.2.2.1)) ≤ wD (fromR r) := by rw [from_to (pull_ok h) (nf_pull (nf_from r))]; exact Nat.le_of_eq (pull_w _)
theorem ro_start {r : DRDisk} {k t : Int} (h : okR r) : okR (toR (dStart (fromR r) k t).1 r.2.2.2.2.2.1) := okR_to (start_ok h) (nf_start (nf_from r))
theorem rw_start {r : DRDisk} {k t : Int} (h : okR r) : wD (fromR (toR (dStart (fromR r) k t).1 r.2.2.2.2.2.1)) ≤ wD (fromR r) := by rw [from_to (start_ok h) (nf_start (nf_from r))]; exact start_w _ _ _
theorem ro_burn {r : DRDisk}  (h : okR r) : okR (toR (burnD (fromR r)).1 r.2.2.2.2.2.1) := okR_to (burn_ok h) (nf_burn (nf_from r))
theorem rw_burn {r : DRDisk}  (h : okR r) : wD (fromR (toR (burnD (fromR r)).1 r.2.2.2.2.2.1)) ≤ wD (fromR r) + 1 := by rw [from_to (burn_ok h) (nf_burn (nf_from r))]; exact burn_w h
end
section
set_option linter.unusedVariables false
set_option linter.unusedSimpArgs false
set_option maxRecDepth 4000
theorem fnOk83 : fnOk Try.prog 83 = true := by kernel_rfl
theorem fnOk85 : fnOk Try.prog 85 = true := by kernel_rfl
theorem tk103 : tk Try.prog 103 = some (some 4) := by kernel_rfl
theorem tk97 : tk Try.prog 97 = some none := by kernel_rfl
theorem tsl97 : tsl Try.prog 97 = some (103, 4, 48) := by kernel_rfl
theorem tst103 : tst Try.prog 103 = some [(0, 1), (1, 1), (2, 1), (3, 1)] := by kernel_rfl
theorem tst99 : tst Try.prog 99 = some [(0, 1), (1, 4), (5, 1), (6, 1), (7, 1), (8, 1), (9, 1)] := by kernel_rfl
theorem tz103 : tz Try.prog 103 = some [.int .i64 0, .bool false, .int .i64 0, .slice none 0 0] := by kernel_rfl
theorem tz99 : tz Try.prog 99 = some [.bool false, .slice none 0 0, .slice none 0 0, .slice none 0 0, .slice none 0 0, .slice none 0 0, .bool false, .bool false, .int .i64 0, .int .i64 0] := by kernel_rfl
theorem rNew_ok (W : World) : CallR Try.prog 34 [] W (mnil) (fun v m' => ∃ (s0 : Nat), v = .pointer (some ⟨s0, 0, none⟩) ∧ Ow (.ptr Tref05Disk) m' [.pointer (some ⟨s0, 0, none⟩)] (s0, newR)) := by
 refine CallR.ofA (n := 3) Try.func34 rfl rfl rfl ?_
 refine VC.rs (VO.as (VO.k1 0 (VC.rs ?_)))
 refine VO.y rfl (.bst (cs := [.bool true, .slice none (0) (0), .slice none (0) (0), .slice none (0) (0), .slice none (0) (0), .slice none (0) (0), .bool true, .bool false, .int .i64 (0), .int .i64 (0)]) rfl tst99 tz99 rfl) ?_
 refine VO.box (cs := [.bool true, .slice none (0) (0), .slice none (0) (0), .slice none (0) (0), .slice none (0) (0), .slice none (0) (0), .bool true, .bool false, .int .i64 (0), .int .i64 (0)]) 102 rfl rfl rfl (fun g1 => ?_)
 refine VO.as (VO.k1 0 (VC.ret ?_))
 refine ⟨_, _, res_run (rs := [.tmp 0]) rfl (.tmp rfl .nil), fun W_ hI => out_of (l := [mone g1 (.cells #[.bool true, .slice none (0) (0), .slice none (0) (0), .slice none (0) (0), .slice none (0) (0), .slice none (0) (0), .bool true, .bool false, .int .i64 (0), .int .i64 (0)] 99 (0, 0))]) hI [102] rfl rfl (mle_refl _) (fun hS_ => ?_)⟩
 dsimp only [packV]
 have he0 : (newR : Dref05Disk) = (true, ([], [], [], []), [], true, false, 0, 0) := by first | rfl | (simp [*]; done)
 refine ⟨g1, ?_, ?_⟩
 rotate_left
 · rw [he0]; exact (mkP_ref05Disk true [] [] [] [] [] true false 0 0 (Seps.nilAt 5 (Seps.nilAt 4 (Seps.nilAt 3 (Seps.nilAt 2 (Seps.nilAt 1 hS_))))) (Ow.nil _ _) (Ow.nil _ _) (Ow.nil _ _) (Ow.nil _ _) (Ow.nil _ _) bdk bdk)
 all_goals (first | rfl | (simp [*]; done))
theorem rNone_ok (W : World) {m0 : Mem} (hm : mle (m0) (wm W)) {g0 : Nat} {d0 : Dref05Disk} (h0 : Ow (.ptr Tref05Disk) m0 [.pointer (some ⟨g0, 0, none⟩)] (g0, d0)) : CallR Try.prog 83 [.pointer (some ⟨g0, 0, none⟩)] W (m0) (fun v m' => v = .bool (decide (d0.1 = false)) ∧ Ow (.ptr Tref05Disk) m' [.pointer (some ⟨g0, 0, none⟩)] (g0, d0)) := by
 refine CallR.ofB (n := 12) hm Try.func83 rfl rfl rfl ?_
 refine VC.rs (VO.as (VO.k2 0 2 (VC.rs (VO.mv ?_))))
 refine VO.y rfl (.pnil rfl rfl Try.underlying62 rfl) ?_
 refine VO.mv (VO.gy rfl ⟨_, rfl, rfl⟩ (.mv rfl) (VO.gy rfl ⟨_, rfl, rfl⟩ (.nilp rfl) ?_))
 refine VO.gy rfl ⟨_, rfl, rfl⟩ (.fa rfl tst99 rfl) ?_
 obtain ⟨q1_E, q1_A1, q1_c1, q1_A2, q1_c2, q1_A3, q1_c3, q1_A4, q1_c4, q1_A5, q1_c5, q1_n1, q1_n2, q1_n3, q1_n4, q1_n5, _, q1_S, q1_1, q1_2, q1_3, q1_4, q1_5, q1_8, q1_9⟩ := openP_ref05Disk (x0 := d0.1) (x1 := d0.2.1.1) (x2 := d0.2.1.2.1) (x3 := d0.2.1.2.2.1) (x4 := d0.2.1.2.2.2) (x5 := d0.2.2.1) (x6 := d0.2.2.2.1) (x7 := d0.2.2.2.2.1) (x8 := d0.2.2.2.2.2.1) (x9 := d0.2.2.2.2.2.2) h0
 have q1_r1 := q1_1.rm
 have q1_r2 := q1_2.rm
 have q1_r3 := q1_3.rm
 have q1_r4 := q1_4.rm
 have q1_r5 := q1_5.rm
 simp only [inK] at q1_8 q1_9
 refine VO.inv _ (fun _ h => h.parts (i := 1) rfl q1_S [107, 102, 103, 104, 105, 106]) ?_
 refine VO.gy rfl ⟨_, rfl, rfl⟩ (.ld1 107 rfl tk4 rfl (cellsAt_one rfl rfl)) ?_
 refine VO.gy rfl ⟨_, rfl, rfl⟩ (.not rfl) (VO.y rfl (.pF rfl rfl) (VO.as ?_))
 refine VO.clsP 108 [107, 102, 103, 104, 105, 106] rfl (fun hg8 => (show Ow (.ptr Tref05Disk) _ _ (_, d0) from (mkP_ref05Disk d0.1 d0.2.1.1 d0.2.1.2.1 d0.2.1.2.2.1 d0.2.1.2.2.2 d0.2.2.1 d0.2.2.2.1 d0.2.2.2.2.1 d0.2.2.2.2.2.1 d0.2.2.2.2.2.2 hg8 (OwnL.ow (Ow.ownl q1_1 rfl mnil) rfl) (OwnL.ow (Ow.ownl q1_2 rfl mnil) rfl) (OwnL.ow (Ow.ownl q1_3 rfl mnil) rfl) (OwnL.ow (Ow.ownl q1_4 rfl mnil) rfl) q1_5 bdk bdk))) (fun mc8 ho8 => ?_)
 refine VO.k2 0 2 (VC.ret ?_)
 refine ⟨_, _, res_run (rs := [.tmp 2]) rfl (.tmp rfl .nil), fun W_ hI => out_of (l := [mc8]) hI [108] rfl rfl (mle_refl _) (fun hS_ => ?_)⟩
 dsimp only [packV]
 have hm0_ : (d0 : Dref05Disk) = d0 := by first | rfl | (simp [*]; done)
 refine ⟨?_, ?_⟩
 rotate_left
 · rw [hm0_]; exact (Ow.up ho8 (hS_.1 _ (.head _)))
 all_goals (first | rfl | (cases d0.1 <;> rfl))
theorem rAsked_ok (W : World) {m0 : Mem} (hm : mle (m0) (wm W)) {g0 : Nat} {d0 : Dref05Disk} (h0 : Ow (.ptr Tref05Disk) m0 [.pointer (some ⟨g0, 0, none⟩)] (g0, d0)) : CallR Try.prog 77 [.pointer (some ⟨g0, 0, none⟩)] W (m0) (fun v m' => v = .int .i64 (wrongD (fromR d0)) ∧ Ow (.ptr Tref05Disk) m' [.pointer (some ⟨g0, 0, none⟩)] (g0, d0)) := by
 refine CallR.ofB (n := 10) hm Try.func77 rfl rfl rfl ?_
 refine VC.rs (VO.as (VO.k2 0 2 (VC.seq (VC.rs (VO.mv ?_)))))
 refine VO.call 1 rfl fnOk83 rfl rfl (fun W hW => rNone_ok W (hW.at (i := 1) rfl) h0) (fun v1 m1 hv1 => ?_)
 obtain ⟨rfl, w1_0⟩ := hv1
 refine VO.k3 0 2 4 ?_
 refine VC.cond rfl (fun hc2 => ?_) (fun hc2 => ?_)
 · refine VC.rs (VO.as ?_)
   refine VO.kp [1, 0] [(1, m1), (0, mout (wm W) (m0))] ?_
   refine VO.k3 0 2 4 (VC.ret (outR ?_))
   refine ⟨_, _, res_run (rs := [.tmp 2]) rfl (.tmp rfl .nil), fun W_ hI => out_of (l := [m1]) hI [1] rfl rfl (mle_refl _) (fun hS_ => ?_)⟩
   dsimp only [packV]
   have hm0_ : (d0 : Dref05Disk) = d0 := by first | rfl | (simp [*]; done)
   refine ⟨?_, ?_⟩
   rotate_left
   · rw [hm0_]; exact (Ow.up w1_0 (hS_.1 _ (.head _)))
   all_goals (first | rfl | (simp [wrongD, fromR, *]))
 refine VC.skip (outN (VC.seq (VC.rs (VO.mv (VO.y rfl (.nilp rfl) (VO.y rfl (.fa rfl tst99 rfl) ?_))))))
 obtain ⟨q3_E, q3_A1, q3_c1, q3_A2, q3_c2, q3_A3, q3_c3, q3_A4, q3_c4, q3_A5, q3_c5, q3_n1, q3_n2, q3_n3, q3_n4, q3_n5, _, q3_S, q3_1, q3_2, q3_3, q3_4, q3_5, q3_8, q3_9⟩ := openP_ref05Disk (x0 := d0.1) (x1 := d0.2.1.1) (x2 := d0.2.1.2.1) (x3 := d0.2.1.2.2.1) (x4 := d0.2.1.2.2.2) (x5 := d0.2.2.1) (x6 := d0.2.2.2.1) (x7 := d0.2.2.2.2.1) (x8 := d0.2.2.2.2.2.1) (x9 := d0.2.2.2.2.2.2) w1_0
 have q3_r1 := q3_1.rm
 have q3_r2 := q3_2.rm
 have q3_r3 := q3_3.rm
 have q3_r4 := q3_4.rm
 have q3_r5 := q3_5.rm
 simp only [inK] at q3_8 q3_9
 refine VO.inv _ (fun _ h => h.parts (i := 1) rfl q3_S [109, 104, 105, 106, 107, 108]) ?_
 refine VO.y rfl (.ld1 109 rfl tk4 rfl (cellsAt_one rfl rfl)) (VO.y rfl (.not rfl) ?_)
 refine VO.clsP 110 [109, 104, 105, 106, 107, 108] rfl (fun hg10 => (show Ow (.ptr Tref05Disk) _ _ (_, d0) from (mkP_ref05Disk d0.1 d0.2.1.1 d0.2.1.2.1 d0.2.1.2.2.1 d0.2.1.2.2.2 d0.2.2.1 d0.2.2.2.1 d0.2.2.2.2.1 d0.2.2.2.2.2.1 d0.2.2.2.2.2.2 hg10 (OwnL.ow (Ow.ownl q3_1 rfl mnil) rfl) (OwnL.ow (Ow.ownl q3_2 rfl mnil) rfl) (OwnL.ow (Ow.ownl q3_3 rfl mnil) rfl) (OwnL.ow (Ow.ownl q3_4 rfl mnil) rfl) q3_5 bdk bdk))) (fun mc10 ho10 => ?_)
 refine VO.kp [110, 0] [(110, mc10), (0, mout (wm W) (m0))] ?_
 refine VO.k4 0 2 4 9 ?_
 refine VC.condBN rfl (fun hc11 => ?_) (fun hc11 => ?_)
 · refine VC.rs (VO.as (VO.k4 0 2 4 9 (VC.ret (outR ?_))))
   refine ⟨_, _, res_run (rs := [.tmp 2]) rfl (.tmp rfl .nil), fun W_ hI => out_of (l := [mc10]) hI [110] rfl rfl (mle_refl _) (fun hS_ => ?_)⟩
   dsimp only [packV]
   have hm0_ : (d0 : Dref05Disk) = d0 := by first | rfl | (simp [*]; done)
   refine ⟨?_, ?_⟩
   rotate_left
   · rw [hm0_]; exact (Ow.up ho10 (hS_.1 _ (.head _)))
   all_goals (first | rfl | (simp [wrongD, fromR, *]))
 · refine VC.skip (outN (VC.rs (VO.as (VO.k4 0 2 4 9 (VC.ret ?_)))))
   refine ⟨_, _, res_run (rs := [.tmp 2]) rfl (.tmp rfl .nil), fun W_ hI => out_of (l := [mc10]) hI [110] rfl rfl (mle_refl _) (fun hS_ => ?_)⟩
   dsimp only [packV]
   have hm0_ : (d0 : Dref05Disk) = d0 := by first | rfl | (simp [*]; done)
   refine ⟨?_, ?_⟩
   rotate_left
   · rw [hm0_]; exact (Ow.up ho10 (hS_.1 _ (.head _)))
   all_goals (first | rfl | (simp [wrongD, fromR, *]))
theorem fin1_rStep_ok {P : Prop} (h : P := by first | omega | (simp only [List.length_append, List.length_nil, List.length_cons, List.length_take, List.length_drop] at *; omega) | (rw [if_pos (by assumption)] at hfu; omega)) : P := h
theorem rStep_ok (W : World) {m0 : Mem} (hm : mle (m0) (wm W)) {g0 : Nat} {d0 : Dref05Disk} (h0 : Ow (.ptr Tref05Disk) m0 [.pointer (some ⟨g0, 0, none⟩)] (g0, d0)) (e0 : okR d0) (e1 : wD (fromR d0) ≤ 2*1000000000000) : CallR Try.prog 78 [.pointer (some ⟨g0, 0, none⟩)] W (m0) (fun v m' => v = .int .i64 (if (burnD (fromR d0)).2 = true then 0 else 6) ∧ Ow (.ptr Tref05Disk) m' [.pointer (some ⟨g0, 0, none⟩)] (g0, toR (burnD (fromR d0)).1 d0.2.2.2.2.2.1)) := by
 have hok0 : okD (fromR d0) := e0; obtain ⟨hg, hfu, hst⟩ := hok0; have hok0 : okD (fromR d0) := e0; simp only [wD, sizeQ] at e1; simp only [fromR] at e1 hfu hst
 refine CallR.ofB (n := 35) hm Try.func78 rfl rfl rfl ?_
 refine VC.rs (VO.as (VO.k2 0 2 (VC.seq (VC.rs (VO.mv (VO.y rfl (.nilp rfl) (VO.y rfl (.fa rfl tst99 rfl) ?_)))))))
 obtain ⟨q1_E, q1_A1, q1_c1, q1_A2, q1_c2, q1_A3, q1_c3, q1_A4, q1_c4, q1_A5, q1_c5, q1_n1, q1_n2, q1_n3, q1_n4, q1_n5, _, q1_S, q1_1, q1_2, q1_3, q1_4, q1_5, q1_8, q1_9⟩ := openP_ref05Disk (x0 := d0.1) (x1 := d0.2.1.1) (x2 := d0.2.1.2.1) (x3 := d0.2.1.2.2.1) (x4 := d0.2.1.2.2.2) (x5 := d0.2.2.1) (x6 := d0.2.2.2.1) (x7 := d0.2.2.2.2.1) (x8 := d0.2.2.2.2.2.1) (x9 := d0.2.2.2.2.2.2) h0
 have q1_r1 := q1_1.rm
 have q1_r2 := q1_2.rm
 have q1_r3 := q1_3.rm
 have q1_r4 := q1_4.rm
 have q1_r5 := q1_5.rm
 simp only [inK] at q1_8 q1_9
 refine VO.inv _ (fun _ h => h.parts (i := 1) rfl q1_S [107, 102, 103, 104, 105, 106]) ?_
 refine VO.y rfl (.ld1 107 rfl tk4 rfl (cellsAt_one rfl rfl)) (VO.mv ?_)
 refine VO.decB (t := 7) rfl (fun hc8 => ?_) (fun hc8 => ?_)
 refine VO.gy rfl ⟨_, rfl, rfl⟩ (.mv rfl) (VO.gy rfl ⟨_, rfl, rfl⟩ (.nilp rfl) ?_)
 refine VO.gy rfl ⟨_, rfl, rfl⟩ (.fa rfl tst99 rfl) ?_
 refine VO.gy rfl ⟨_, rfl, rfl⟩ (.ld1 107 rfl tk3 rfl (cellsAt_one rfl rfl)) ?_
 refine VO.gy rfl ⟨_, rfl, rfl⟩ (.eql rfl rfl) (VO.y rfl (.pT rfl rfl) ?_)
 refine VO.clsP 109 [107, 102, 103, 104, 105, 106] rfl (fun hg9 => (show Ow (.ptr Tref05Disk) _ _ (_, d0) from (mkP_ref05Disk d0.1 d0.2.1.1 d0.2.1.2.1 d0.2.1.2.2.1 d0.2.1.2.2.2 d0.2.2.1 d0.2.2.2.1 d0.2.2.2.2.1 d0.2.2.2.2.2.1 d0.2.2.2.2.2.2 hg9 (OwnL.ow (Ow.ownl q1_1 rfl mnil) rfl) (OwnL.ow (Ow.ownl q1_2 rfl mnil) rfl) (OwnL.ow (Ow.ownl q1_3 rfl mnil) rfl) (OwnL.ow (Ow.ownl q1_4 rfl mnil) rfl) q1_5 (by simp only [inK]; (exact fin1_rStep_ok)) (by simp only [inK]; (exact fin1_rStep_ok))))) (fun mc9 ho9 => ?_)
 refine VO.k3 0 2 13 ?_
 refine VC.cond rfl (fun hc10 => ?_) (fun hc10 => ?_)
 · refine VC.rs (VO.mv (VO.y rfl (.nilp rfl) (VO.y rfl (.fa rfl tst99 rfl) ?_)))
   obtain ⟨q11_E, q11_A1, q11_c1, q11_A2, q11_c2, q11_A3, q11_c3, q11_A4, q11_c4, q11_A5, q11_c5, q11_n1, q11_n2, q11_n3, q11_n4, q11_n5, _, q11_S, q11_1, q11_2, q11_3, q11_4, q11_5, q11_8, q11_9⟩ := openP_ref05Disk (x0 := d0.1) (x1 := d0.2.1.1) (x2 := d0.2.1.2.1) (x3 := d0.2.1.2.2.1) (x4 := d0.2.1.2.2.2) (x5 := d0.2.2.1) (x6 := d0.2.2.2.1) (x7 := d0.2.2.2.2.1) (x8 := d0.2.2.2.2.2.1) (x9 := d0.2.2.2.2.2.2) ho9
   have q11_r1 := q11_1.rm
   have q11_r2 := q11_2.rm
   have q11_r3 := q11_3.rm
   have q11_r4 := q11_4.rm
   have q11_r5 := q11_5.rm
   simp only [inK] at q11_8 q11_9
   refine VO.inv _ (fun _ h => h.parts (i := 109) rfl q11_S [117, 112, 113, 114, 115, 116]) ?_
   refine VO.store (k := 1) 117 rfl rfl (.inr ⟨tk4, rfl⟩) rfl rfl rfl rfl rfl ?_
   refine VO.clsP 118 [117, 112, 113, 114, 115, 116] rfl (fun hg18 => (mkP_ref05Disk d0.1 d0.2.1.1 d0.2.1.2.1 d0.2.1.2.2.1 d0.2.1.2.2.2 d0.2.2.1 false d0.2.2.2.2.1 d0.2.2.2.2.2.1 d0.2.2.2.2.2.2 hg18 (OwnL.ow (Ow.ownl q11_1 rfl mnil) rfl) (OwnL.ow (Ow.ownl q11_2 rfl mnil) rfl) (OwnL.ow (Ow.ownl q11_3 rfl mnil) rfl) (OwnL.ow (Ow.ownl q11_4 rfl mnil) rfl) q11_5 (by simp only [inK]; (exact fin1_rStep_ok)) (by simp only [inK]; (exact fin1_rStep_ok)))) (fun mc18 ho18 => ?_)
   refine VO.kp [118, 0] [(118, mc18), (0, mout (wm W) (m0))] ?_
   refine VO.k3 0 2 13 (VC.rs (VO.as (VO.k3 0 2 13 (VC.ret (outR ?_)))))
   refine ⟨_, _, res_run (rs := [.tmp 2]) rfl (.tmp rfl .nil), fun W_ hI => out_of (l := [mc18]) hI [118] rfl rfl (mle_refl _) (fun hS_ => ?_)⟩
   dsimp only [packV]
   have hm0_ : (toR (burnD (fromR d0)).1 d0.2.2.2.2.2.1 : Dref05Disk) = (d0.1, d0.2.1, d0.2.2.1, false, d0.2.2.2.2) := by first | rfl | (first | exact (rstep_off (by assumption) (by assumption)).1 | exact (rstep_dec (by assumption) (by assumption)).1 | exact (rstep_free (by assumption)).1)
   refine ⟨?_, ?_⟩
   rotate_left
   · rw [hm0_]; exact (Ow.up ho18 (hS_.1 _ (.head _)))
   all_goals (first | rfl | (first | (rw [(rstep_off (r := d0) (by assumption) (by assumption)).2]; rfl) | (rw [(rstep_dec (r := d0) (by assumption) (by assumption)).2]; rfl) | (rw [(rstep_free (r := d0) (by assumption)).2]; rfl)))
 · refine VC.skip (outN (VC.seq (VC.rs (VO.mv (VO.y rfl (.nilp rfl) (VO.y rfl (.fa rfl tst99 rfl) ?_))))))
   obtain ⟨q19_E, q19_A1, q19_c1, q19_A2, q19_c2, q19_A3, q19_c3, q19_A4, q19_c4, q19_A5, q19_c5, q19_n1, q19_n2, q19_n3, q19_n4, q19_n5, _, q19_S, q19_1, q19_2, q19_3, q19_4, q19_5, q19_8, q19_9⟩ := openP_ref05Disk (x0 := d0.1) (x1 := d0.2.1.1) (x2 := d0.2.1.2.1) (x3 := d0.2.1.2.2.1) (x4 := d0.2.1.2.2.2) (x5 := d0.2.2.1) (x6 := d0.2.2.2.1) (x7 := d0.2.2.2.2.1) (x8 := d0.2.2.2.2.2.1) (x9 := d0.2.2.2.2.2.2) ho9
   have q19_r1 := q19_1.rm
   have q19_r2 := q19_2.rm
   have q19_r3 := q19_3.rm
   have q19_r4 := q19_4.rm
   have q19_r5 := q19_5.rm
   simp only [inK] at q19_8 q19_9
   refine VO.inv _ (fun _ h => h.parts (i := 109) rfl q19_S [125, 120, 121, 122, 123, 124]) ?_
   refine VO.y rfl (.ld1 125 rfl tk4 rfl (cellsAt_one rfl rfl)) ?_
   refine VO.clsP 126 [125, 120, 121, 122, 123, 124] rfl (fun hg26 => (show Ow (.ptr Tref05Disk) _ _ (_, d0) from (mkP_ref05Disk d0.1 d0.2.1.1 d0.2.1.2.1 d0.2.1.2.2.1 d0.2.1.2.2.2 d0.2.2.1 d0.2.2.2.1 d0.2.2.2.2.1 d0.2.2.2.2.2.1 d0.2.2.2.2.2.2 hg26 (OwnL.ow (Ow.ownl q19_1 rfl mnil) rfl) (OwnL.ow (Ow.ownl q19_2 rfl mnil) rfl) (OwnL.ow (Ow.ownl q19_3 rfl mnil) rfl) (OwnL.ow (Ow.ownl q19_4 rfl mnil) rfl) q19_5 (by simp only [inK]; (exact fin1_rStep_ok)) (by simp only [inK]; (exact fin1_rStep_ok))))) (fun mc26 ho26 => ?_)
   refine VO.kp [126, 0] [(126, mc26), (0, mout (wm W) (m0))] ?_
   refine VO.k4 0 2 13 20 ?_
   refine VC.condKT rfl hc8 ?_
   refine VC.reg ?_
   refine VO.mv (VO.y rfl (.nilp rfl) (VO.y rfl (.fa rfl tst99 rfl) ?_))
   obtain ⟨q27_E, q27_A1, q27_c1, q27_A2, q27_c2, q27_A3, q27_c3, q27_A4, q27_c4, q27_A5, q27_c5, q27_n1, q27_n2, q27_n3, q27_n4, q27_n5, _, q27_S, q27_1, q27_2, q27_3, q27_4, q27_5, q27_8, q27_9⟩ := openP_ref05Disk (x0 := d0.1) (x1 := d0.2.1.1) (x2 := d0.2.1.2.1) (x3 := d0.2.1.2.2.1) (x4 := d0.2.1.2.2.2) (x5 := d0.2.2.1) (x6 := d0.2.2.2.1) (x7 := d0.2.2.2.2.1) (x8 := d0.2.2.2.2.2.1) (x9 := d0.2.2.2.2.2.2) ho26
   have q27_r1 := q27_1.rm
   have q27_r2 := q27_2.rm
   have q27_r3 := q27_3.rm
   have q27_r4 := q27_4.rm
   have q27_r5 := q27_5.rm
   simp only [inK] at q27_8 q27_9
   refine VO.inv _ (fun _ h => h.parts (i := 126) rfl q27_S [133, 128, 129, 130, 131, 132]) ?_
   refine VO.y rfl (.ld1 133 rfl tk3 rfl (cellsAt_one rfl rfl)) ?_
   refine VO.y rfl (.sub rfl rfl rfl ⟨by exact fin1_rStep_ok, by exact fin1_rStep_ok⟩) ?_
   refine VO.y rfl (.nilp rfl) (VO.y rfl (.fa rfl tst99 rfl) ?_)
   refine VO.store (k := 1) 133 rfl rfl (.inr ⟨tk3, rfl⟩) rfl rfl rfl rfl rfl ?_
   refine VO.clsP 134 [133, 128, 129, 130, 131, 132] rfl (fun hg34 => (mkP_ref05Disk d0.1 d0.2.1.1 d0.2.1.2.1 d0.2.1.2.2.1 d0.2.1.2.2.2 d0.2.2.1 d0.2.2.2.1 d0.2.2.2.2.1 (d0.2.2.2.2.2.1 - 1) d0.2.2.2.2.2.2 hg34 (OwnL.ow (Ow.ownl q27_1 rfl mnil) rfl) (OwnL.ow (Ow.ownl q27_2 rfl mnil) rfl) (OwnL.ow (Ow.ownl q27_3 rfl mnil) rfl) (OwnL.ow (Ow.ownl q27_4 rfl mnil) rfl) q27_5 (by simp only [inK]; (exact fin1_rStep_ok)) (by simp only [inK]; (exact fin1_rStep_ok)))) (fun mc34 ho34 => ?_)
   refine VO.k4 0 2 13 20 (outN (VC.rs (VO.mv (VO.y rfl (.nilp rfl) (VO.y rfl (.fa rfl tst99 rfl) ?_)))))
   obtain ⟨q35_E, q35_A1, q35_c1, q35_A2, q35_c2, q35_A3, q35_c3, q35_A4, q35_c4, q35_A5, q35_c5, q35_n1, q35_n2, q35_n3, q35_n4, q35_n5, _, q35_S, q35_1, q35_2, q35_3, q35_4, q35_5, q35_8, q35_9⟩ := openP_ref05Disk (x0 := d0.1) (x1 := d0.2.1.1) (x2 := d0.2.1.2.1) (x3 := d0.2.1.2.2.1) (x4 := d0.2.1.2.2.2) (x5 := d0.2.2.1) (x6 := d0.2.2.2.1) (x7 := d0.2.2.2.2.1) (x8 := d0.2.2.2.2.2.1 - 1) (x9 := d0.2.2.2.2.2.2) ho34
   have q35_r1 := q35_1.rm
   have q35_r2 := q35_2.rm
   have q35_r3 := q35_3.rm
   have q35_r4 := q35_4.rm
   have q35_r5 := q35_5.rm
   simp only [inK] at q35_8 q35_9
   refine VO.inv _ (fun _ h => h.parts (i := 134) rfl q35_S [141, 136, 137, 138, 139, 140]) ?_
   refine VO.y rfl (.ld1 141 rfl tk3 rfl (cellsAt_one rfl rfl)) ?_
   refine VO.y rfl (.add rfl rfl rfl ⟨by exact fin1_rStep_ok, by exact fin1_rStep_ok⟩) ?_
   refine VO.y rfl (.nilp rfl) (VO.y rfl (.fa rfl tst99 rfl) ?_)
   refine VO.store (k := 1) 141 rfl rfl (.inr ⟨tk3, rfl⟩) rfl rfl rfl rfl rfl ?_
   refine VO.clsP 142 [141, 136, 137, 138, 139, 140] rfl (fun hg42 => (mkP_ref05Disk d0.1 d0.2.1.1 d0.2.1.2.1 d0.2.1.2.2.1 d0.2.1.2.2.2 d0.2.2.1 d0.2.2.2.1 d0.2.2.2.2.1 (d0.2.2.2.2.2.1 - 1) (d0.2.2.2.2.2.2 + 1) hg42 (OwnL.ow (Ow.ownl q35_1 rfl mnil) rfl) (OwnL.ow (Ow.ownl q35_2 rfl mnil) rfl) (OwnL.ow (Ow.ownl q35_3 rfl mnil) rfl) (OwnL.ow (Ow.ownl q35_4 rfl mnil) rfl) q35_5 (by simp only [inK]; (exact fin1_rStep_ok)) (by simp only [inK]; (exact fin1_rStep_ok)))) (fun mc42 ho42 => ?_)
   refine VO.k4 0 2 13 20 (VC.rs (VO.as ?_))
   refine VO.kp [142, 0] [(142, mc42), (0, mout (wm W) (m0))] ?_
   refine VO.k4 0 2 13 20 (VC.ret ?_)
   refine ⟨_, _, res_run (rs := [.tmp 2]) rfl (.tmp rfl .nil), fun W_ hI => out_of (l := [mc42]) hI [142] rfl rfl (mle_refl _) (fun hS_ => ?_)⟩
   dsimp only [packV]
   have hm0_ : (toR (burnD (fromR d0)).1 d0.2.2.2.2.2.1 : Dref05Disk) = (d0.1, d0.2.1, d0.2.2.1, d0.2.2.2.1, d0.2.2.2.2.1, d0.2.2.2.2.2.1 - 1, d0.2.2.2.2.2.2 + 1) := by first | rfl | (first | exact (rstep_off (by assumption) (by assumption)).1 | exact (rstep_dec (by assumption) (by assumption)).1 | exact (rstep_free (by assumption)).1)
   refine ⟨?_, ?_⟩
   rotate_left
   · rw [hm0_]; exact (Ow.up ho42 (hS_.1 _ (.head _)))
   all_goals (first | rfl | (first | (rw [(rstep_off (r := d0) (by assumption) (by assumption)).2]; rfl) | (rw [(rstep_dec (r := d0) (by assumption) (by assumption)).2]; rfl) | (rw [(rstep_free (r := d0) (by assumption)).2]; rfl)))
 · refine VO.gN (VO.gN (VO.gN (VO.gN (VO.gN (VO.y rfl (.pF rfl rfl) ?_)))))
   refine VO.clsP 143 [107, 102, 103, 104, 105, 106] rfl (fun hg43 => (show Ow (.ptr Tref05Disk) _ _ (_, d0) from (mkP_ref05Disk d0.1 d0.2.1.1 d0.2.1.2.1 d0.2.1.2.2.1 d0.2.1.2.2.2 d0.2.2.1 d0.2.2.2.1 d0.2.2.2.2.1 d0.2.2.2.2.2.1 d0.2.2.2.2.2.2 hg43 (OwnL.ow (Ow.ownl q1_1 rfl mnil) rfl) (OwnL.ow (Ow.ownl q1_2 rfl mnil) rfl) (OwnL.ow (Ow.ownl q1_3 rfl mnil) rfl) (OwnL.ow (Ow.ownl q1_4 rfl mnil) rfl) q1_5 (by simp only [inK]; (exact fin1_rStep_ok)) (by simp only [inK]; (exact fin1_rStep_ok))))) (fun mc43 ho43 => ?_)
   refine VO.k3 0 2 13 (VC.condF rfl (VC.skip (outN (VC.seq (VC.rs (VO.mv (VO.y rfl (.nilp rfl) (VO.y rfl (.fa rfl tst99 rfl) ?_))))))))
   obtain ⟨q44_E, q44_A1, q44_c1, q44_A2, q44_c2, q44_A3, q44_c3, q44_A4, q44_c4, q44_A5, q44_c5, q44_n1, q44_n2, q44_n3, q44_n4, q44_n5, _, q44_S, q44_1, q44_2, q44_3, q44_4, q44_5, q44_8, q44_9⟩ := openP_ref05Disk (x0 := d0.1) (x1 := d0.2.1.1) (x2 := d0.2.1.2.1) (x3 := d0.2.1.2.2.1) (x4 := d0.2.1.2.2.2) (x5 := d0.2.2.1) (x6 := d0.2.2.2.1) (x7 := d0.2.2.2.2.1) (x8 := d0.2.2.2.2.2.1) (x9 := d0.2.2.2.2.2.2) ho43
   have q44_r1 := q44_1.rm
   have q44_r2 := q44_2.rm
   have q44_r3 := q44_3.rm
   have q44_r4 := q44_4.rm
   have q44_r5 := q44_5.rm
   simp only [inK] at q44_8 q44_9
   refine VO.inv _ (fun _ h => h.parts (i := 143) rfl q44_S [150, 145, 146, 147, 148, 149]) ?_
   refine VO.y rfl (.ld1 150 rfl tk4 rfl (cellsAt_one rfl rfl)) ?_
   refine VO.clsP 151 [150, 145, 146, 147, 148, 149] rfl (fun hg51 => (show Ow (.ptr Tref05Disk) _ _ (_, d0) from (mkP_ref05Disk d0.1 d0.2.1.1 d0.2.1.2.1 d0.2.1.2.2.1 d0.2.1.2.2.2 d0.2.2.1 d0.2.2.2.1 d0.2.2.2.2.1 d0.2.2.2.2.2.1 d0.2.2.2.2.2.2 hg51 (OwnL.ow (Ow.ownl q44_1 rfl mnil) rfl) (OwnL.ow (Ow.ownl q44_2 rfl mnil) rfl) (OwnL.ow (Ow.ownl q44_3 rfl mnil) rfl) (OwnL.ow (Ow.ownl q44_4 rfl mnil) rfl) q44_5 (by simp only [inK]; (exact fin1_rStep_ok)) (by simp only [inK]; (exact fin1_rStep_ok))))) (fun mc51 ho51 => ?_)
   refine VO.kp [151, 0] [(151, mc51), (0, mout (wm W) (m0))] ?_
   refine VO.k4 0 2 13 20 ?_
   refine VC.condKF rfl hc8 ?_
   refine VC.skip (outN (VC.rs (VO.mv (VO.y rfl (.nilp rfl) (VO.y rfl (.fa rfl tst99 rfl) ?_)))))
   obtain ⟨q52_E, q52_A1, q52_c1, q52_A2, q52_c2, q52_A3, q52_c3, q52_A4, q52_c4, q52_A5, q52_c5, q52_n1, q52_n2, q52_n3, q52_n4, q52_n5, _, q52_S, q52_1, q52_2, q52_3, q52_4, q52_5, q52_8, q52_9⟩ := openP_ref05Disk (x0 := d0.1) (x1 := d0.2.1.1) (x2 := d0.2.1.2.1) (x3 := d0.2.1.2.2.1) (x4 := d0.2.1.2.2.2) (x5 := d0.2.2.1) (x6 := d0.2.2.2.1) (x7 := d0.2.2.2.2.1) (x8 := d0.2.2.2.2.2.1) (x9 := d0.2.2.2.2.2.2) ho51
   have q52_r1 := q52_1.rm
   have q52_r2 := q52_2.rm
   have q52_r3 := q52_3.rm
   have q52_r4 := q52_4.rm
   have q52_r5 := q52_5.rm
   simp only [inK] at q52_8 q52_9
   refine VO.inv _ (fun _ h => h.parts (i := 151) rfl q52_S [158, 153, 154, 155, 156, 157]) ?_
   refine VO.y rfl (.ld1 158 rfl tk3 rfl (cellsAt_one rfl rfl)) ?_
   refine VO.y rfl (.add rfl rfl rfl ⟨by exact fin1_rStep_ok, by exact fin1_rStep_ok⟩) ?_
   refine VO.y rfl (.nilp rfl) (VO.y rfl (.fa rfl tst99 rfl) ?_)
   refine VO.store (k := 1) 158 rfl rfl (.inr ⟨tk3, rfl⟩) rfl rfl rfl rfl rfl ?_
   refine VO.clsP 159 [158, 153, 154, 155, 156, 157] rfl (fun hg59 => (mkP_ref05Disk d0.1 d0.2.1.1 d0.2.1.2.1 d0.2.1.2.2.1 d0.2.1.2.2.2 d0.2.2.1 d0.2.2.2.1 d0.2.2.2.2.1 d0.2.2.2.2.2.1 (d0.2.2.2.2.2.2 + 1) hg59 (OwnL.ow (Ow.ownl q52_1 rfl mnil) rfl) (OwnL.ow (Ow.ownl q52_2 rfl mnil) rfl) (OwnL.ow (Ow.ownl q52_3 rfl mnil) rfl) (OwnL.ow (Ow.ownl q52_4 rfl mnil) rfl) q52_5 (by simp only [inK]; (exact fin1_rStep_ok)) (by simp only [inK]; (exact fin1_rStep_ok)))) (fun mc59 ho59 => ?_)
   refine VO.k4 0 2 13 20 (VC.rs (VO.as (VO.k4 0 2 13 20 (VC.ret ?_))))
   refine ⟨_, _, res_run (rs := [.tmp 2]) rfl (.tmp rfl .nil), fun W_ hI => out_of (l := [mc59]) hI [159] rfl rfl (mle_refl _) (fun hS_ => ?_)⟩
   dsimp only [packV]
   have hm0_ : (toR (burnD (fromR d0)).1 d0.2.2.2.2.2.1 : Dref05Disk) = (d0.1, d0.2.1, d0.2.2.1, d0.2.2.2.1, d0.2.2.2.2.1, d0.2.2.2.2.2.1, d0.2.2.2.2.2.2 + 1) := by first | rfl | (first | exact (rstep_off (by assumption) (by assumption)).1 | exact (rstep_dec (by assumption) (by assumption)).1 | exact (rstep_free (by assumption)).1)
   refine ⟨?_, ?_⟩
   rotate_left
   · rw [hm0_]; exact (Ow.up ho59 (hS_.1 _ (.head _)))
   all_goals (first | rfl | (first | (rw [(rstep_off (r := d0) (by assumption) (by assumption)).2]; rfl) | (rw [(rstep_dec (r := d0) (by assumption) (by assumption)).2]; rfl) | (rw [(rstep_free (r := d0) (by assumption)).2]; rfl)))
theorem rWith_ok (W : World) {v0 : Value} {d0 : List UInt8} (h0 : Rd (.sl .byte) (wm W) [v0] d0) {v1 : List Value} {d1 : Dref05Raw} (h1 : Rd Tref05Raw (wm W) v1 d1) (e0 : d1.2.1 = true → 0 ≤ d1.2.2.1 ∧ d1.2.2.1 ≤ d0.length) (e1 : d0.length + d1.2.2.2.length ≤ 140737488355000) : CallR Try.prog 85 [v0, .agg v1.toArray] W (mnil) (fun v m' => ∃ (s0 : Value), v = s0 ∧ Ow (.sl .byte) m' [s0] (doneR d0 d1)) := by
 obtain ⟨A0, c0, rfl, l0, k0⟩ := h0.slice
 simp only [maxLen] at k0
 obtain ⟨p1_A3, p1_c3, rfl, p1_0, p1_2, p1_3⟩ := open_ref05Raw (x0 := d1.1) (x1 := d1.2.1) (x2 := d1.2.2.1) (x3 := d1.2.2.2) h1
 simp only [inK] at p1_0 p1_2
 have p1_r3 := Rd.room p1_3
 refine CallR.ofA (n := 21) Try.func85 rfl rfl rfl ?_
 refine VC.rs ?_
 refine VO.box (cs := [.int .i64 (d1.1), .bool d1.2.1, .int .i64 (d1.2.2.1), .slice p1_A3 (d1.2.2.2.length) (p1_c3)]) 102 rfl rfl rfl (fun g1 => ?_)
 refine VO.as (VO.k4 0 1 3 4 (VC.rs (VO.as (VO.k5 0 1 3 4 5 (VC.seq (VC.rs (VO.y rfl (.fa rfl tst103 rfl) (VO.y rfl (.ld1 102 rfl tk4 rfl (cellsAt_one rfl rfl)) ?_))))))))
 refine VO.kp [102, 0] [(102, mone g1 (.cells #[.int .i64 (d1.1), .bool d1.2.1, .int .i64 (d1.2.2.1), .slice p1_A3 (d1.2.2.2.length) (p1_c3)] 103 (0, 0))), (0, wm W)] ?_
 refine VO.k6 0 1 3 4 5 7 ?_
 refine VC.condB rfl (fun hc3 => ?_) (fun hc3 => ?_)
 · refine VC.rs (VO.mv (VO.mv (VO.y rfl (.fa rfl tst103 rfl) (VO.y rfl (.ld1 102 rfl tk3 rfl (cellsAt_one rfl rfl)) ?_))))
   have hs4 := h0.pre (j := ((d1.2.2.1).toNat)) (by first | omega | (simp only [List.length_append, List.length_nil, List.length_cons, List.length_take, List.length_drop] at *; omega) | (have h_ := e0 (by assumption); omega))
   refine VO.y rfl (.slHI ((d1.2.2.1).toNat) rfl rfl tsl25 (by first | omega | (simp only [List.length_append, List.length_nil, List.length_cons, List.length_take, List.length_drop] at *; omega) | (have h_ := e0 (by assumption); omega)) (by first | omega | (simp only [List.length_append, List.length_nil, List.length_cons, List.length_take, List.length_drop] at *; omega) | (have h_ := e0 (by assumption); omega))) ?_
   refine VO.inv _ (fun _ h => h.nilc 106) ?_
   obtain ⟨mo5, cs5, hM5, hA5, hC5⟩ := (OwnL.nil .byte mnil mnil)
   obtain ⟨all5, hS5, hR5⟩ := Rd.srcI (P := Try.prog) (hs4) Try.underlying25
   refine VO.app 106 rfl rfl rfl tsl25 tz5 rfl rfl hM5 hA5 (hS5 _ 0 rfl) hR5.nice (by simp only [maxLen]; (first | omega | (simp only [List.length_append, List.length_nil, List.length_cons, List.length_take, List.length_drop] at *; omega) | (have h_ := e0 (by assumption); omega))) (by first | omega | (simp only [List.length_append, List.length_nil, List.length_cons, List.length_take, List.length_drop] at *; omega) | (have h_ := e0 (by assumption); omega)) (by decide) (fun v5 m5 hN5 => ?_)
   have ho5 : OwnL .byte m5 mnil v5 ((d0).take ((d1.2.2.1).toNat)) := OwnL.more hC5 hN5 (All2c.mono hR5 fun _ _ h => Rd.flat rfl h _)
   obtain ⟨A5, c5, rfl, l5, k5⟩ := ho5.slice
   simp only [maxLen] at k5
   refine VO.as (VO.k6 0 1 3 4 5 7 (VC.ret (outR ?_)))
   refine ⟨_, _, res_run (rs := [.tmp 4]) rfl (.tmp rfl .nil), fun W_ hI => out_of (l := [m5]) hI [106] rfl rfl (mle_refl _) (fun hS_ => ?_)⟩
   dsimp only [packV]
   have he0 : (doneR d0 d1 : Ty.Den (.sl .byte)) = (d0).take ((d1.2.2.1).toNat) := by first | rfl | (simp [doneR, *]; done)
   refine ⟨Value.slice A5 (((d0).take ((d1.2.2.1).toNat)).length) (c5), ?_, ?_⟩
   rotate_left
   · rw [he0]; exact (Ow.up (OwnL.ow ho5 rfl) (hS_.1 _ (.head _)))
   all_goals (first | rfl | (simp [*]; done))
 · refine VC.skip (outN (VC.rs (VO.mv (VO.mv ?_))))
   refine VO.inv _ (fun _ h => h.nilc 108) ?_
   obtain ⟨mo7, cs7, hM7, hA7, hC7⟩ := (OwnL.nil .byte mnil mnil)
   obtain ⟨all7, hS7, hR7⟩ := Rd.srcI (P := Try.prog) (h0) Try.underlying25
   refine VO.app 108 rfl rfl rfl tsl25 tz5 rfl rfl hM7 hA7 (hS7 _ 0 rfl) hR7.nice (by simp only [maxLen]; (first | omega | (simp only [List.length_append, List.length_nil, List.length_cons, List.length_take, List.length_drop] at *; omega) | (have h_ := e0 (by assumption); omega))) (by first | omega | (simp only [List.length_append, List.length_nil, List.length_cons, List.length_take, List.length_drop] at *; omega) | (have h_ := e0 (by assumption); omega)) (by decide) (fun v7 m7 hN7 => ?_)
   have ho7 : OwnL .byte m7 mnil v7 (d0) := OwnL.more hC7 hN7 (All2c.mono hR7 fun _ _ h => Rd.flat rfl h _)
   obtain ⟨A7, c7, rfl, l7, k7⟩ := ho7.slice
   simp only [maxLen] at k7
   refine VO.as (VO.k6 0 1 3 4 5 7 (VC.rs (VO.mv (VO.y rfl (.fa rfl tst103 rfl) (VO.y rfl (.ld1 102 rfl tk25 rfl (cellsAt_one rfl rfl)) ?_)))))
   obtain ⟨mo9, cs9, hM9, hA9, hC9⟩ := ho7
   obtain ⟨all9, hS9, hR9⟩ := Rd.srcI (P := Try.prog) (p1_3) Try.underlying25
   refine VO.app 108 rfl rfl rfl tsl25 tz5 rfl rfl hM9 hA9 (hS9 _ 0 rfl) hR9.nice (by simp only [maxLen]; (first | omega | (simp only [List.length_append, List.length_nil, List.length_cons, List.length_take, List.length_drop] at *; omega) | (have h_ := e0 (by assumption); omega))) (by first | omega | (simp only [List.length_append, List.length_nil, List.length_cons, List.length_take, List.length_drop] at *; omega) | (have h_ := e0 (by assumption); omega)) (by decide) (fun v9 m9 hN9 => ?_)
   have ho9 : OwnL .byte m9 mnil v9 (d0 ++ d1.2.2.2) := OwnL.more hC9 hN9 (All2c.mono hR9 fun _ _ h => Rd.flat rfl h _)
   obtain ⟨A9, c9, rfl, l9, k9⟩ := ho9.slice
   simp only [maxLen] at k9
   refine VO.as (VO.k6 0 1 3 4 5 7 (VC.ret ?_))
   refine ⟨_, _, res_run (rs := [.tmp 4]) rfl (.tmp rfl .nil), fun W_ hI => out_of (l := [m9]) hI [108] rfl rfl (mle_refl _) (fun hS_ => ?_)⟩
   dsimp only [packV]
   have he0 : (doneR d0 d1 : Ty.Den (.sl .byte)) = d0 ++ d1.2.2.2 := by first | rfl | (simp [doneR, *]; done)
   refine ⟨Value.slice A9 ((d0 ++ d1.2.2.2).length) (c9), ?_, ?_⟩
   rotate_left
   · rw [he0]; exact (Ow.up (OwnL.ow ho9 rfl) (hS_.1 _ (.head _)))
   all_goals (first | rfl | (simp [*]; done))
theorem rHolds_ok (W : World) {m0 : Mem} (hm : mle (m0) (wm W)) {g0 : Nat} {d0 : Dref05Disk} (h0 : Ow (.ptr Tref05Disk) m0 [.pointer (some ⟨g0, 0, none⟩)] (g0, d0)) (d1 : Int) (h1 : inK .i64 d1) (e0 : okR d0) (e1 : wD (fromR d0) ≤ 2*1000000000000) (e2 : inF d1) : CallR Try.prog 81 [.pointer (some ⟨g0, 0, none⟩), .int .i64 d1] W (m0) (fun v m' => ∃ (s0 : Value), ∃ (p0 : Mem), ∃ (p1 : Mem), v = s0 ∧ Seps m' [p0, p1] ∧ Ow (.sl .byte) p0 [s0] (heldB d0.2.1 (d0.2.2.1.map stepOf) d1) ∧ Ow (.ptr Tref05Disk) p1 [.pointer (some ⟨g0, 0, none⟩)] (g0, d0)) := by
 have hok0 : okD (fromR d0) := e0; obtain ⟨hg, hfu, hst⟩ := hok0; have hok0 : okD (fromR d0) := e0; simp only [wD, sizeQ] at e1; simp only [fromR] at e1 hfu hst; have hin := e2; simp only [inF] at hin
 have h1' := h1; simp only [inK] at h1'
 refine CallR.ofB (n := 44) hm Try.func81 rfl rfl rfl ?_
 refine VC.rs (VO.as (VO.k3 0 1 4 (VC.rs (VO.as (VO.k4 0 1 4 5 (VC.rs (VO.mv (VO.mv (VO.mv (VO.y rfl (.nilp rfl) (VO.y rfl (.fa rfl tst99 rfl) ?_)))))))))))
 rcases (show d1 = (0 : Int) ∨ d1 = (1 : Int) ∨ d1 = (2 : Int) ∨ d1 = (3 : Int) from by first | omega | (simp only [List.length_append, List.length_nil, List.length_cons, List.length_take, List.length_drop] at *; omega)) with hi1 | hi1 | hi1 | hi1
 refine VO.y rfl (.ixa (i := 0) (o := 1) rfl rfl tar69 hi1 rfl rfl) ?_
 obtain ⟨q2_E, q2_A1, q2_c1, q2_A2, q2_c2, q2_A3, q2_c3, q2_A4, q2_c4, q2_A5, q2_c5, q2_n1, q2_n2, q2_n3, q2_n4, q2_n5, _, q2_S, q2_1, q2_2, q2_3, q2_4, q2_5, q2_8, q2_9⟩ := openP_ref05Disk (x0 := d0.1) (x1 := d0.2.1.1) (x2 := d0.2.1.2.1) (x3 := d0.2.1.2.2.1) (x4 := d0.2.1.2.2.2) (x5 := d0.2.2.1) (x6 := d0.2.2.2.1) (x7 := d0.2.2.2.2.1) (x8 := d0.2.2.2.2.2.1) (x9 := d0.2.2.2.2.2.2) h0
 have q2_r1 := q2_1.rm
 have q2_r2 := q2_2.rm
 have q2_r3 := q2_3.rm
 have q2_r4 := q2_4.rm
 have q2_r5 := q2_5.rm
 simp only [inK] at q2_8 q2_9
 refine VO.inv _ (fun _ h => h.parts (i := 1) rfl q2_S [108, 103, 104, 105, 106, 107]) ?_
 refine VO.y rfl (.ld1 108 rfl tk25 rfl (cellsAt_one rfl rfl)) ?_
 refine VO.inv _ (fun _ h => h.nilc 110) ?_
 obtain ⟨mo9, cs9, hM9, hA9, hC9⟩ := (OwnL.nil .byte mnil mnil)
 obtain ⟨all9, hS9, hR9⟩ := Rd.srcI (P := Try.prog) ((OwnL.rd (Ow.ownl q2_1 rfl mnil) (mle_refl _) (mle_nil _))) Try.underlying25
 refine VO.app 110 rfl rfl rfl tsl25 tz5 rfl rfl hM9 hA9 (hS9 _ 103 rfl) hR9.nice bdm bd (by decide) (fun v9 m9 hN9 => ?_)
 have ho9 : OwnL .byte m9 mnil v9 (d0.2.1.1) := OwnL.more hC9 hN9 (All2c.mono hR9 fun _ _ h => Rd.flat rfl h _)
 obtain ⟨A9, c9, rfl, l9, k9⟩ := ho9.slice
 simp only [maxLen] at k9
 refine VO.as ?_
 refine VO.kp [110, 108, 103, 104, 105, 106, 107, 0] [(110, m9), (108, mone g0 (.cells #[.bool d0.1, .slice q2_A1 (d0.2.1.1.length) (q2_c1), .slice q2_A2 (d0.2.1.2.1.length) (q2_c2), .slice q2_A3 (d0.2.1.2.2.1.length) (q2_c3), .slice q2_A4 (d0.2.1.2.2.2.length) (q2_c4), .slice q2_A5 (d0.2.2.1.length) (q2_c5), .bool d0.2.2.2.1, .bool d0.2.2.2.2.1, .int .i64 (d0.2.2.2.2.2.1), .int .i64 (d0.2.2.2.2.2.2)] q2_E (0, 0))), (103, q2_n1), (104, q2_n2), (105, q2_n3), (106, q2_n4), (107, q2_n5), (0, mout (wm W) (m0))] ?_
 refine VO.k4 0 1 4 5 (VC.seq (VC.rs (VO.as (VO.k5 0 1 4 5 6 (VC.block ?_)))))
 refine VC.loop (G := Nat × (List UInt8) × (Option Addr) × Nat × Mem) (fun g => [(5, .slice (g.2.2.1) ((g.2.1).length) ((g.2.2.2.1))), (6, .int .i64 ((((g.1) : Nat) : Int))), (0, .pointer (some ⟨g0, 0, none⟩)), (1, .int .i64 (d1)), (4, .slice none (0) (0))]) (fun g => [(110, (g.2.2.2.2)), (108, mone g0 (.cells #[.bool d0.1, .slice q2_A1 (d0.2.1.1.length) (q2_c1), .slice q2_A2 (d0.2.1.2.1.length) (q2_c2), .slice q2_A3 (d0.2.1.2.2.1.length) (q2_c3), .slice q2_A4 (d0.2.1.2.2.2.length) (q2_c4), .slice q2_A5 (d0.2.2.1.length) (q2_c5), .bool d0.2.2.2.1, .bool d0.2.2.2.2.1, .int .i64 (d0.2.2.2.2.2.1), .int .i64 (d0.2.2.2.2.2.2)] q2_E (0, 0))), (103, q2_n1), (104, q2_n2), (105, q2_n3), (106, q2_n4), (107, q2_n5), (0, mout (wm W) (m0))]) (fun g => ((g.1) ≤ d0.2.2.1.length) ∧ ((g.2.1) = heldB d0.2.1 ((d0.2.2.1.map stepOf).take (g.1)) d1) ∧ (OwnL .byte (g.2.2.2.2) mnil (.slice (g.2.2.1) (g.2.1).length (g.2.2.2.1)) (g.2.1))) (fun g => d0.2.2.1.length - (g.1)) (0, d0.2.1.1, A9, c9, m9) (⟨by omega, by first | exact (getF0 ‹d1 = (0 : Int)›).symm | exact (getF1 ‹d1 = (1 : Int)›).symm | exact (getF2 ‹d1 = (2 : Int)›).symm | exact (getF3 ‹d1 = (3 : Int)›).symm, ho9⟩) ⟨⟨rfl, rfl, rfl, rfl, rfl, trivial⟩, fun _ h => h.sub [110, 108, 103, 104, 105, 106, 107, 0]⟩ ?_
 rintro ⟨k, b, b_A, b_c, b_m⟩ ⟨hk, hb, h_b⟩
 replace hk : k ≤ d0.2.2.1.length := hk
 replace hb : b = heldB d0.2.1 ((d0.2.2.1.map stepOf).take k) d1 := hb
 replace h_b : OwnL .byte b_m mnil (.slice b_A b.length b_c) b := h_b
 show VC _ _ _ _ _ [(5, .slice b_A (b.length) (b_c)), (6, .int .i64 (((k : Nat) : Int))), (0, .pointer (some ⟨g0, 0, none⟩)), (1, .int .i64 (d1)), (4, .slice none (0) (0))] [(110, b_m), (108, mone g0 (.cells #[.bool d0.1, .slice q2_A1 (d0.2.1.1.length) (q2_c1), .slice q2_A2 (d0.2.1.2.1.length) (q2_c2), .slice q2_A3 (d0.2.1.2.2.1.length) (q2_c3), .slice q2_A4 (d0.2.1.2.2.2.length) (q2_c4), .slice q2_A5 (d0.2.2.1.length) (q2_c5), .bool d0.2.2.2.1, .bool d0.2.2.2.2.1, .int .i64 (d0.2.2.2.2.2.1), .int .i64 (d0.2.2.2.2.2.2)] q2_E (0, 0))), (103, q2_n1), (104, q2_n2), (105, q2_n3), (106, q2_n4), (107, q2_n5), (0, mout (wm W) (m0))]
 have l_b : b.length ≤ b_c := by obtain ⟨_, _, he, hl, _⟩ := h_b.slice; simp only [Value.slice.injEq] at he; omega
 have k_b : b_c ≤ 9223372036854775807 := by obtain ⟨_, _, he, _, hl⟩ := h_b.slice; simp only [Value.slice.injEq, maxLen] at he hl; omega
 refine VC.seq (VC.rs (VO.mv (VO.mv (VO.y rfl (.nilp rfl) (VO.y rfl (.fa rfl tst99 rfl) (VO.y rfl (.ld1 108 rfl tk97 rfl (cellsAt_one rfl rfl)) ?_))))))
 refine VO.y rfl (.lenS rfl tsl97) ?_
 refine VO.y rfl (.lss rfl rfl) (VO.k6 0 1 4 5 6 21 ?_)
 refine VC.cond rfl (fun hc11 => ?_) (fun hc11 => ?_)
 refine VC.skip (outN (VC.seq (VC.block (VC.rs (VO.mv (VO.y rfl (.nilp rfl) (VO.y rfl (.fa rfl tst99 rfl) (VO.y rfl (.ld1 108 rfl tk97 rfl (cellsAt_one rfl rfl)) (VO.mv ?_)))))))))
 obtain ⟨x12, hx12⟩ : ∃ z_, (d0.2.2.1)[k]? = some z_ := ⟨_, List.getElem?_eq_getElem bd⟩
 obtain ⟨gg12, oo12, ec12, ea12, hce12, hre12⟩ := (Ow.rd q2_5 (mle_refl _)).elem hx12
 cases ea12
 obtain ⟨q12_A3, q12_c3, rfl, q12_0, q12_2, q12_3⟩ := open_ref05Raw (x0 := x12.1) (x1 := x12.2.1) (x2 := x12.2.2.1) (x3 := x12.2.2.2) hre12
 simp only [inK] at q12_0 q12_2
 have q12_r3 := Rd.room q12_3
 refine VO.y rfl (.ixI k rfl rfl tsl97 rfl bd) ?_
 refine VO.y rfl (.fa rfl tst103 rfl) ?_
 refine VO.y rfl (.ld1 107 rfl tk3 rfl (hce12.at1 (j := 0) rfl)) ?_
 refine VO.mv (VO.y rfl (.eql rfl rfl) ?_)
 refine VO.kp [110, 108, 103, 104, 105, 106, 107, 0] [(110, b_m), (108, mone g0 (.cells #[.bool d0.1, .slice q2_A1 (d0.2.1.1.length) (q2_c1), .slice q2_A2 (d0.2.1.2.1.length) (q2_c2), .slice q2_A3 (d0.2.1.2.2.1.length) (q2_c3), .slice q2_A4 (d0.2.1.2.2.2.length) (q2_c4), .slice (some ⟨gg12, oo12, none⟩) (d0.2.2.1.length) (q2_c5), .bool d0.2.2.2.1, .bool d0.2.2.2.2.1, .int .i64 (d0.2.2.2.2.2.1), .int .i64 (d0.2.2.2.2.2.2)] q2_E (0, 0))), (103, q2_n1), (104, q2_n2), (105, q2_n3), (106, q2_n4), (107, q2_n5), (0, mout (wm W) (m0))] ?_
 refine VO.k7 0 1 4 5 6 21 33 ?_
 refine VC.cond rfl (fun hc13 => ?_) (fun hc13 => ?_)
 refine VC.reg ?_
 refine VO.mv (VO.mv (VO.y rfl (.nilp rfl) (VO.y rfl (.fa rfl tst99 rfl) (VO.y rfl (.ld1 108 rfl tk97 rfl (cellsAt_one rfl rfl)) (VO.mv ?_)))))
 refine VO.y rfl (.ixI k rfl rfl tsl97 rfl bd) ?_
 refine VO.y rfl (.ldA 107 rfl tk103 rfl hce12) ?_
 refine VO.callN 115 rfl fnOk85 rfl (fun W hW => rWith_ok W (OwnL.rd h_b (hW.at (i := 110) rfl) (mle_nil _)) (Rd.mono hre12 (hW.at (i := 107) rfl)) (by (have h_ := held_cut hok0.1 hb (get_step ‹d0.2.2.1[k]? = some _›) e2 ‹_ = d1›; exact fun hc_ => h_ (stepC hc_))) (by (have h_ := held_room hb (get_step ‹d0.2.2.1[k]? = some _›); simp only [sizeQ, stepOf] at h_; omega))) (fun v15 m15 hv15 => ?_)
 obtain ⟨s15_0, rfl, f15_0⟩ := hv15
 obtain ⟨A15_0, c15_0, eq15_0, l15_0, k15_0⟩ := f15_0.slice
 subst eq15_0
 simp only [maxLen] at k15_0
 refine VO.as (VO.k7 0 1 4 5 6 21 33 (outBN (outN ?_)))
 refine VC.reg ?_
 refine VO.mv ?_
 refine VO.y rfl (.add (c := ((k + 1 : Nat) : Int)) rfl rfl (by omega) ⟨bd, bd⟩) ?_
 refine VO.as (VO.k7 0 1 4 5 6 21 33 ?_)
 exact outN ⟨⟨k + 1, doneR b x12, A15_0, c15_0, m15⟩, ⟨by omega, by first | (have h_ := held_yes hb (get_step ‹d0.2.2.1[k]? = some _›) ‹_ = d1›; rw [← doneR_is] at h_; exact h_) | exact held_no hb (get_step ‹d0.2.2.1[k]? = some _›) ‹¬ _ = d1›, (Ow.ownl f15_0 rfl mnil)⟩, by (dsimp only; omega), ⟨⟨rfl, rfl, rfl, rfl, rfl, trivial⟩, fun _ h => Inv.sub (Inv.num h 115 110 rfl) [110, 108, 103, 104, 105, 106, 107, 0]⟩⟩
 refine VC.skip (outBN (outN ?_))
 refine VC.reg ?_
 refine VO.mv ?_
 refine VO.y rfl (.add (c := ((k + 1 : Nat) : Int)) rfl rfl (by omega) ⟨bd, bd⟩) ?_
 refine VO.as (VO.k7 0 1 4 5 6 21 33 ?_)
 exact outN ⟨⟨k + 1, b, b_A, b_c, b_m⟩, ⟨by omega, by first | (have h_ := held_yes hb (get_step ‹d0.2.2.1[k]? = some _›) ‹_ = d1›; rw [← doneR_is] at h_; exact h_) | exact held_no hb (get_step ‹d0.2.2.1[k]? = some _›) ‹¬ _ = d1›, h_b⟩, by (dsimp only; omega), ⟨⟨rfl, rfl, rfl, rfl, rfl, trivial⟩, fun _ h => Inv.sub h [110, 108, 103, 104, 105, 106, 107, 0]⟩⟩
 · refine VC.exit (outE (outE (outBB (outN (VC.rs (VO.mv (VO.as ?_)))))))
   refine VO.kp [110, 108, 103, 104, 105, 106, 107, 0] [(110, b_m), (108, mone g0 (.cells #[.bool d0.1, .slice q2_A1 (d0.2.1.1.length) (q2_c1), .slice q2_A2 (d0.2.1.2.1.length) (q2_c2), .slice q2_A3 (d0.2.1.2.2.1.length) (q2_c3), .slice q2_A4 (d0.2.1.2.2.2.length) (q2_c4), .slice q2_A5 (d0.2.2.1.length) (q2_c5), .bool d0.2.2.2.1, .bool d0.2.2.2.2.1, .int .i64 (d0.2.2.2.2.2.1), .int .i64 (d0.2.2.2.2.2.2)] q2_E (0, 0))), (103, q2_n1), (104, q2_n2), (105, q2_n3), (106, q2_n4), (107, q2_n5), (0, mout (wm W) (m0))] ?_
   refine VO.k6 0 1 4 5 6 21 (VC.ret ?_)
   refine ⟨_, _, res_run (rs := [.tmp 4]) rfl (.tmp rfl .nil), fun W_ hI => out_of (l := [b_m, mone g0 (.cells #[.bool d0.1, .slice q2_A1 (d0.2.1.1.length) (q2_c1), .slice q2_A2 (d0.2.1.2.1.length) (q2_c2), .slice q2_A3 (d0.2.1.2.2.1.length) (q2_c3), .slice q2_A4 (d0.2.1.2.2.2.length) (q2_c4), .slice q2_A5 (d0.2.2.1.length) (q2_c5), .bool d0.2.2.2.1, .bool d0.2.2.2.2.1, .int .i64 (d0.2.2.2.2.2.1), .int .i64 (d0.2.2.2.2.2.2)] q2_E (0, 0)), q2_n1, q2_n2, q2_n3, q2_n4, q2_n5]) hI [110, 108, 103, 104, 105, 106, 107] rfl rfl (mle_refl _) (fun hS_ => ?_)⟩
   dsimp only [packV]
   have he0 : (heldB d0.2.1 (d0.2.2.1.map stepOf) d1 : Ty.Den (.sl .byte)) = b := by first | rfl | (rw [hb, List.take_of_length_le (by rw [List.length_map]; omega)])
   have hm0_ : (d0 : Dref05Disk) = d0 := by first | rfl | (rw [hb, List.take_of_length_le (by rw [List.length_map]; omega)])
   refine ⟨Value.slice b_A (b.length) (b_c), muns [b_m], muns [mone g0 (.cells [Value.bool d0.1, Value.slice q2_A1 (d0.2.1.1.length) (q2_c1), Value.slice q2_A2 (d0.2.1.2.1.length) (q2_c2), Value.slice q2_A3 (d0.2.1.2.2.1.length) (q2_c3), Value.slice q2_A4 (d0.2.1.2.2.2.length) (q2_c4), Value.slice q2_A5 (d0.2.2.1.length) (q2_c5), Value.bool d0.2.2.2.1, Value.bool d0.2.2.2.2.1, Value.int .i64 (d0.2.2.2.2.2.1), Value.int .i64 (d0.2.2.2.2.2.2)].toArray q2_E (0, 0)), q2_n1, q2_n2, q2_n3, q2_n4, q2_n5], ?_, ?_, ?_, ?_⟩
   rotate_left
   · exact Seps.grp (ls := [[b_m], [mone g0 (.cells [Value.bool d0.1, Value.slice q2_A1 (d0.2.1.1.length) (q2_c1), Value.slice q2_A2 (d0.2.1.2.1.length) (q2_c2), Value.slice q2_A3 (d0.2.1.2.2.1.length) (q2_c3), Value.slice q2_A4 (d0.2.1.2.2.2.length) (q2_c4), Value.slice q2_A5 (d0.2.2.1.length) (q2_c5), Value.bool d0.2.2.2.1, Value.bool d0.2.2.2.2.1, Value.int .i64 (d0.2.2.2.2.2.1), Value.int .i64 (d0.2.2.2.2.2.2)].toArray q2_E (0, 0)), q2_n1, q2_n2, q2_n3, q2_n4, q2_n5]]) hS_
   · rw [he0]; exact (Ow.up (OwnL.ow h_b rfl) ((Seps.self hS_ (List.Sublist.cons_cons _ (List.Sublist.cons _ (List.Sublist.cons _ (List.Sublist.cons _ (List.Sublist.cons _ (List.Sublist.cons _ (List.Sublist.cons _ List.Sublist.slnil)))))))).1 _ (.head _)))
   · rw [hm0_]; exact (show Ow (.ptr Tref05Disk) _ _ (_, d0) from (mkP_ref05Disk d0.1 d0.2.1.1 d0.2.1.2.1 d0.2.1.2.2.1 d0.2.1.2.2.2 d0.2.2.1 d0.2.2.2.1 d0.2.2.2.2.1 d0.2.2.2.2.2.1 d0.2.2.2.2.2.2 (Seps.self hS_ (List.Sublist.cons _ (List.Sublist.cons_cons _ (List.Sublist.cons_cons _ (List.Sublist.cons_cons _ (List.Sublist.cons_cons _ (List.Sublist.cons_cons _ (List.Sublist.cons_cons _ List.Sublist.slnil)))))))) (OwnL.ow (Ow.ownl q2_1 rfl mnil) rfl) (OwnL.ow (Ow.ownl q2_2 rfl mnil) rfl) (OwnL.ow (Ow.ownl q2_3 rfl mnil) rfl) (OwnL.ow (Ow.ownl q2_4 rfl mnil) rfl) q2_5 bdk bdk))
   all_goals (first | rfl | (simp [*]; done))
 refine VO.y rfl (.ixa (i := 1) (o := 2) rfl rfl tar69 hi1 rfl rfl) ?_
 obtain ⟨q16_E, q16_A1, q16_c1, q16_A2, q16_c2, q16_A3, q16_c3, q16_A4, q16_c4, q16_A5, q16_c5, q16_n1, q16_n2, q16_n3, q16_n4, q16_n5, _, q16_S, q16_1, q16_2, q16_3, q16_4, q16_5, q16_8, q16_9⟩ := openP_ref05Disk (x0 := d0.1) (x1 := d0.2.1.1) (x2 := d0.2.1.2.1) (x3 := d0.2.1.2.2.1) (x4 := d0.2.1.2.2.2) (x5 := d0.2.2.1) (x6 := d0.2.2.2.1) (x7 := d0.2.2.2.2.1) (x8 := d0.2.2.2.2.2.1) (x9 := d0.2.2.2.2.2.2) h0
 have q16_r1 := q16_1.rm
 have q16_r2 := q16_2.rm
 have q16_r3 := q16_3.rm
 have q16_r4 := q16_4.rm
 have q16_r5 := q16_5.rm
 simp only [inK] at q16_8 q16_9
 refine VO.inv _ (fun _ h => h.parts (i := 1) rfl q16_S [122, 117, 118, 119, 120, 121]) ?_
 refine VO.y rfl (.ld1 122 rfl tk25 rfl (cellsAt_one rfl rfl)) ?_
 refine VO.inv _ (fun _ h => h.nilc 124) ?_
 obtain ⟨mo23, cs23, hM23, hA23, hC23⟩ := (OwnL.nil .byte mnil mnil)
 obtain ⟨all23, hS23, hR23⟩ := Rd.srcI (P := Try.prog) ((OwnL.rd (Ow.ownl q16_2 rfl mnil) (mle_refl _) (mle_nil _))) Try.underlying25
 refine VO.app 124 rfl rfl rfl tsl25 tz5 rfl rfl hM23 hA23 (hS23 _ 118 rfl) hR23.nice bdm bd (by decide) (fun v23 m23 hN23 => ?_)
 have ho23 : OwnL .byte m23 mnil v23 (d0.2.1.2.1) := OwnL.more hC23 hN23 (All2c.mono hR23 fun _ _ h => Rd.flat rfl h _)
 obtain ⟨A23, c23, rfl, l23, k23⟩ := ho23.slice
 simp only [maxLen] at k23
 refine VO.as ?_
 refine VO.kp [124, 122, 117, 118, 119, 120, 121, 0] [(124, m23), (122, mone g0 (.cells #[.bool d0.1, .slice q16_A1 (d0.2.1.1.length) (q16_c1), .slice q16_A2 (d0.2.1.2.1.length) (q16_c2), .slice q16_A3 (d0.2.1.2.2.1.length) (q16_c3), .slice q16_A4 (d0.2.1.2.2.2.length) (q16_c4), .slice q16_A5 (d0.2.2.1.length) (q16_c5), .bool d0.2.2.2.1, .bool d0.2.2.2.2.1, .int .i64 (d0.2.2.2.2.2.1), .int .i64 (d0.2.2.2.2.2.2)] q16_E (0, 0))), (117, q16_n1), (118, q16_n2), (119, q16_n3), (120, q16_n4), (121, q16_n5), (0, mout (wm W) (m0))] ?_
 refine VO.k4 0 1 4 5 (VC.seq (VC.rs (VO.as (VO.k5 0 1 4 5 6 (VC.block ?_)))))
 refine VC.loop (G := Nat × (List UInt8) × (Option Addr) × Nat × Mem) (fun g => [(5, .slice (g.2.2.1) ((g.2.1).length) ((g.2.2.2.1))), (6, .int .i64 ((((g.1) : Nat) : Int))), (0, .pointer (some ⟨g0, 0, none⟩)), (1, .int .i64 (d1)), (4, .slice none (0) (0))]) (fun g => [(124, (g.2.2.2.2)), (122, mone g0 (.cells #[.bool d0.1, .slice q16_A1 (d0.2.1.1.length) (q16_c1), .slice q16_A2 (d0.2.1.2.1.length) (q16_c2), .slice q16_A3 (d0.2.1.2.2.1.length) (q16_c3), .slice q16_A4 (d0.2.1.2.2.2.length) (q16_c4), .slice q16_A5 (d0.2.2.1.length) (q16_c5), .bool d0.2.2.2.1, .bool d0.2.2.2.2.1, .int .i64 (d0.2.2.2.2.2.1), .int .i64 (d0.2.2.2.2.2.2)] q16_E (0, 0))), (117, q16_n1), (118, q16_n2), (119, q16_n3), (120, q16_n4), (121, q16_n5), (0, mout (wm W) (m0))]) (fun g => ((g.1) ≤ d0.2.2.1.length) ∧ ((g.2.1) = heldB d0.2.1 ((d0.2.2.1.map stepOf).take (g.1)) d1) ∧ (OwnL .byte (g.2.2.2.2) mnil (.slice (g.2.2.1) (g.2.1).length (g.2.2.2.1)) (g.2.1))) (fun g => d0.2.2.1.length - (g.1)) (0, d0.2.1.2.1, A23, c23, m23) (⟨by omega, by first | exact (getF0 ‹d1 = (0 : Int)›).symm | exact (getF1 ‹d1 = (1 : Int)›).symm | exact (getF2 ‹d1 = (2 : Int)›).symm | exact (getF3 ‹d1 = (3 : Int)›).symm, ho23⟩) ⟨⟨rfl, rfl, rfl, rfl, rfl, trivial⟩, fun _ h => h.sub [124, 122, 117, 118, 119, 120, 121, 0]⟩ ?_
 rintro ⟨k, b, b_A, b_c, b_m⟩ ⟨hk, hb, h_b⟩
 replace hk : k ≤ d0.2.2.1.length := hk
 replace hb : b = heldB d0.2.1 ((d0.2.2.1.map stepOf).take k) d1 := hb
 replace h_b : OwnL .byte b_m mnil (.slice b_A b.length b_c) b := h_b
 show VC _ _ _ _ _ [(5, .slice b_A (b.length) (b_c)), (6, .int .i64 (((k : Nat) : Int))), (0, .pointer (some ⟨g0, 0, none⟩)), (1, .int .i64 (d1)), (4, .slice none (0) (0))] [(124, b_m), (122, mone g0 (.cells #[.bool d0.1, .slice q16_A1 (d0.2.1.1.length) (q16_c1), .slice q16_A2 (d0.2.1.2.1.length) (q16_c2), .slice q16_A3 (d0.2.1.2.2.1.length) (q16_c3), .slice q16_A4 (d0.2.1.2.2.2.length) (q16_c4), .slice q16_A5 (d0.2.2.1.length) (q16_c5), .bool d0.2.2.2.1, .bool d0.2.2.2.2.1, .int .i64 (d0.2.2.2.2.2.1), .int .i64 (d0.2.2.2.2.2.2)] q16_E (0, 0))), (117, q16_n1), (118, q16_n2), (119, q16_n3), (120, q16_n4), (121, q16_n5), (0, mout (wm W) (m0))]
 have l_b : b.length ≤ b_c := by obtain ⟨_, _, he, hl, _⟩ := h_b.slice; simp only [Value.slice.injEq] at he; omega
 have k_b : b_c ≤ 9223372036854775807 := by obtain ⟨_, _, he, _, hl⟩ := h_b.slice; simp only [Value.slice.injEq, maxLen] at he hl; omega
 refine VC.seq (VC.rs (VO.mv (VO.mv (VO.y rfl (.nilp rfl) (VO.y rfl (.fa rfl tst99 rfl) (VO.y rfl (.ld1 122 rfl tk97 rfl (cellsAt_one rfl rfl)) ?_))))))
 refine VO.y rfl (.lenS rfl tsl97) ?_
 refine VO.y rfl (.lss rfl rfl) (VO.k6 0 1 4 5 6 21 ?_)
 refine VC.cond rfl (fun hc25 => ?_) (fun hc25 => ?_)
 refine VC.skip (outN (VC.seq (VC.block (VC.rs (VO.mv (VO.y rfl (.nilp rfl) (VO.y rfl (.fa rfl tst99 rfl) (VO.y rfl (.ld1 122 rfl tk97 rfl (cellsAt_one rfl rfl)) (VO.mv ?_)))))))))
 obtain ⟨x26, hx26⟩ : ∃ z_, (d0.2.2.1)[k]? = some z_ := ⟨_, List.getElem?_eq_getElem bd⟩
 obtain ⟨gg26, oo26, ec26, ea26, hce26, hre26⟩ := (Ow.rd q16_5 (mle_refl _)).elem hx26
 cases ea26
 obtain ⟨q26_A3, q26_c3, rfl, q26_0, q26_2, q26_3⟩ := open_ref05Raw (x0 := x26.1) (x1 := x26.2.1) (x2 := x26.2.2.1) (x3 := x26.2.2.2) hre26
 simp only [inK] at q26_0 q26_2
 have q26_r3 := Rd.room q26_3
 refine VO.y rfl (.ixI k rfl rfl tsl97 rfl bd) ?_
 refine VO.y rfl (.fa rfl tst103 rfl) ?_
 refine VO.y rfl (.ld1 121 rfl tk3 rfl (hce26.at1 (j := 0) rfl)) ?_
 refine VO.mv (VO.y rfl (.eql rfl rfl) ?_)
 refine VO.kp [124, 122, 117, 118, 119, 120, 121, 0] [(124, b_m), (122, mone g0 (.cells #[.bool d0.1, .slice q16_A1 (d0.2.1.1.length) (q16_c1), .slice q16_A2 (d0.2.1.2.1.length) (q16_c2), .slice q16_A3 (d0.2.1.2.2.1.length) (q16_c3), .slice q16_A4 (d0.2.1.2.2.2.length) (q16_c4), .slice (some ⟨gg26, oo26, none⟩) (d0.2.2.1.length) (q16_c5), .bool d0.2.2.2.1, .bool d0.2.2.2.2.1, .int .i64 (d0.2.2.2.2.2.1), .int .i64 (d0.2.2.2.2.2.2)] q16_E (0, 0))), (117, q16_n1), (118, q16_n2), (119, q16_n3), (120, q16_n4), (121, q16_n5), (0, mout (wm W) (m0))] ?_
 refine VO.k7 0 1 4 5 6 21 33 ?_
 refine VC.cond rfl (fun hc27 => ?_) (fun hc27 => ?_)
 refine VC.reg ?_
 refine VO.mv (VO.mv (VO.y rfl (.nilp rfl) (VO.y rfl (.fa rfl tst99 rfl) (VO.y rfl (.ld1 122 rfl tk97 rfl (cellsAt_one rfl rfl)) (VO.mv ?_)))))
 refine VO.y rfl (.ixI k rfl rfl tsl97 rfl bd) ?_
 refine VO.y rfl (.ldA 121 rfl tk103 rfl hce26) ?_
 refine VO.callN 129 rfl fnOk85 rfl (fun W hW => rWith_ok W (OwnL.rd h_b (hW.at (i := 124) rfl) (mle_nil _)) (Rd.mono hre26 (hW.at (i := 121) rfl)) (by (have h_ := held_cut hok0.1 hb (get_step ‹d0.2.2.1[k]? = some _›) e2 ‹_ = d1›; exact fun hc_ => h_ (stepC hc_))) (by (have h_ := held_room hb (get_step ‹d0.2.2.1[k]? = some _›); simp only [sizeQ, stepOf] at h_; omega))) (fun v29 m29 hv29 => ?_)
 obtain ⟨s29_0, rfl, f29_0⟩ := hv29
 obtain ⟨A29_0, c29_0, eq29_0, l29_0, k29_0⟩ := f29_0.slice
 subst eq29_0
 simp only [maxLen] at k29_0
 refine VO.as (VO.k7 0 1 4 5 6 21 33 (outBN (outN ?_)))
 refine VC.reg ?_
 refine VO.mv ?_
 refine VO.y rfl (.add (c := ((k + 1 : Nat) : Int)) rfl rfl (by omega) ⟨bd, bd⟩) ?_
 refine VO.as (VO.k7 0 1 4 5 6 21 33 ?_)
 exact outN ⟨⟨k + 1, doneR b x26, A29_0, c29_0, m29⟩, ⟨by omega, by first | (have h_ := held_yes hb (get_step ‹d0.2.2.1[k]? = some _›) ‹_ = d1›; rw [← doneR_is] at h_; exact h_) | exact held_no hb (get_step ‹d0.2.2.1[k]? = some _›) ‹¬ _ = d1›, (Ow.ownl f29_0 rfl mnil)⟩, by (dsimp only; omega), ⟨⟨rfl, rfl, rfl, rfl, rfl, trivial⟩, fun _ h => Inv.sub (Inv.num h 129 124 rfl) [124, 122, 117, 118, 119, 120, 121, 0]⟩⟩
 refine VC.skip (outBN (outN ?_))
 refine VC.reg ?_
 refine VO.mv ?_
 refine VO.y rfl (.add (c := ((k + 1 : Nat) : Int)) rfl rfl (by omega) ⟨bd, bd⟩) ?_
 refine VO.as (VO.k7 0 1 4 5 6 21 33 ?_)
 exact outN ⟨⟨k + 1, b, b_A, b_c, b_m⟩, ⟨by omega, by first | (have h_ := held_yes hb (get_step ‹d0.2.2.1[k]? = some _›) ‹_ = d1›; rw [← doneR_is] at h_; exact h_) | exact held_no hb (get_step ‹d0.2.2.1[k]? = some _›) ‹¬ _ = d1›, h_b⟩, by (dsimp only; omega), ⟨⟨rfl, rfl, rfl, rfl, rfl, trivial⟩, fun _ h => Inv.sub h [124, 122, 117, 118, 119, 120, 121, 0]⟩⟩
 · refine VC.exit (outE (outE (outBB (outN (VC.rs (VO.mv (VO.as ?_)))))))
   refine VO.kp [124, 122, 117, 118, 119, 120, 121, 0] [(124, b_m), (122, mone g0 (.cells #[.bool d0.1, .slice q16_A1 (d0.2.1.1.length) (q16_c1), .slice q16_A2 (d0.2.1.2.1.length) (q16_c2), .slice q16_A3 (d0.2.1.2.2.1.length) (q16_c3), .slice q16_A4 (d0.2.1.2.2.2.length) (q16_c4), .slice q16_A5 (d0.2.2.1.length) (q16_c5), .bool d0.2.2.2.1, .bool d0.2.2.2.2.1, .int .i64 (d0.2.2.2.2.2.1), .int .i64 (d0.2.2.2.2.2.2)] q16_E (0, 0))), (117, q16_n1), (118, q16_n2), (119, q16_n3), (120, q16_n4), (121, q16_n5), (0, mout (wm W) (m0))] ?_
   refine VO.k6 0 1 4 5 6 21 (VC.ret ?_)
   refine ⟨_, _, res_run (rs := [.tmp 4]) rfl (.tmp rfl .nil), fun W_ hI => out_of (l := [b_m, mone g0 (.cells #[.bool d0.1, .slice q16_A1 (d0.2.1.1.length) (q16_c1), .slice q16_A2 (d0.2.1.2.1.length) (q16_c2), .slice q16_A3 (d0.2.1.2.2.1.length) (q16_c3), .slice q16_A4 (d0.2.1.2.2.2.length) (q16_c4), .slice q16_A5 (d0.2.2.1.length) (q16_c5), .bool d0.2.2.2.1, .bool d0.2.2.2.2.1, .int .i64 (d0.2.2.2.2.2.1), .int .i64 (d0.2.2.2.2.2.2)] q16_E (0, 0)), q16_n1, q16_n2, q16_n3, q16_n4, q16_n5]) hI [124, 122, 117, 118, 119, 120, 121] rfl rfl (mle_refl _) (fun hS_ => ?_)⟩
   dsimp only [packV]
   have he0 : (heldB d0.2.1 (d0.2.2.1.map stepOf) d1 : Ty.Den (.sl .byte)) = b := by first | rfl | (rw [hb, List.take_of_length_le (by rw [List.length_map]; omega)])
   have hm0_ : (d0 : Dref05Disk) = d0 := by first | rfl | (rw [hb, List.take_of_length_le (by rw [List.length_map]; omega)])
   refine ⟨Value.slice b_A (b.length) (b_c), muns [b_m], muns [mone g0 (.cells [Value.bool d0.1, Value.slice q16_A1 (d0.2.1.1.length) (q16_c1), Value.slice q16_A2 (d0.2.1.2.1.length) (q16_c2), Value.slice q16_A3 (d0.2.1.2.2.1.length) (q16_c3), Value.slice q16_A4 (d0.2.1.2.2.2.length) (q16_c4), Value.slice q16_A5 (d0.2.2.1.length) (q16_c5), Value.bool d0.2.2.2.1, Value.bool d0.2.2.2.2.1, Value.int .i64 (d0.2.2.2.2.2.1), Value.int .i64 (d0.2.2.2.2.2.2)].toArray q16_E (0, 0)), q16_n1, q16_n2, q16_n3, q16_n4, q16_n5], ?_, ?_, ?_, ?_⟩
   rotate_left
   · exact Seps.grp (ls := [[b_m], [mone g0 (.cells [Value.bool d0.1, Value.slice q16_A1 (d0.2.1.1.length) (q16_c1), Value.slice q16_A2 (d0.2.1.2.1.length) (q16_c2), Value.slice q16_A3 (d0.2.1.2.2.1.length) (q16_c3), Value.slice q16_A4 (d0.2.1.2.2.2.length) (q16_c4), Value.slice q16_A5 (d0.2.2.1.length) (q16_c5), Value.bool d0.2.2.2.1, Value.bool d0.2.2.2.2.1, Value.int .i64 (d0.2.2.2.2.2.1), Value.int .i64 (d0.2.2.2.2.2.2)].toArray q16_E (0, 0)), q16_n1, q16_n2, q16_n3, q16_n4, q16_n5]]) hS_
   · rw [he0]; exact (Ow.up (OwnL.ow h_b rfl) ((Seps.self hS_ (List.Sublist.cons_cons _ (List.Sublist.cons _ (List.Sublist.cons _ (List.Sublist.cons _ (List.Sublist.cons _ (List.Sublist.cons _ (List.Sublist.cons _ List.Sublist.slnil)))))))).1 _ (.head _)))
   · rw [hm0_]; exact (show Ow (.ptr Tref05Disk) _ _ (_, d0) from (mkP_ref05Disk d0.1 d0.2.1.1 d0.2.1.2.1 d0.2.1.2.2.1 d0.2.1.2.2.2 d0.2.2.1 d0.2.2.2.1 d0.2.2.2.2.1 d0.2.2.2.2.2.1 d0.2.2.2.2.2.2 (Seps.self hS_ (List.Sublist.cons _ (List.Sublist.cons_cons _ (List.Sublist.cons_cons _ (List.Sublist.cons_cons _ (List.Sublist.cons_cons _ (List.Sublist.cons_cons _ (List.Sublist.cons_cons _ List.Sublist.slnil)))))))) (OwnL.ow (Ow.ownl q16_1 rfl mnil) rfl) (OwnL.ow (Ow.ownl q16_2 rfl mnil) rfl) (OwnL.ow (Ow.ownl q16_3 rfl mnil) rfl) (OwnL.ow (Ow.ownl q16_4 rfl mnil) rfl) q16_5 bdk bdk))
   all_goals (first | rfl | (simp [*]; done))
 refine VO.y rfl (.ixa (i := 2) (o := 3) rfl rfl tar69 hi1 rfl rfl) ?_
 obtain ⟨q30_E, q30_A1, q30_c1, q30_A2, q30_c2, q30_A3, q30_c3, q30_A4, q30_c4, q30_A5, q30_c5, q30_n1, q30_n2, q30_n3, q30_n4, q30_n5, _, q30_S, q30_1, q30_2, q30_3, q30_4, q30_5, q30_8, q30_9⟩ := openP_ref05Disk (x0 := d0.1) (x1 := d0.2.1.1) (x2 := d0.2.1.2.1) (x3 := d0.2.1.2.2.1) (x4 := d0.2.1.2.2.2) (x5 := d0.2.2.1) (x6 := d0.2.2.2.1) (x7 := d0.2.2.2.2.1) (x8 := d0.2.2.2.2.2.1) (x9 := d0.2.2.2.2.2.2) h0
 have q30_r1 := q30_1.rm
 have q30_r2 := q30_2.rm
 have q30_r3 := q30_3.rm
 have q30_r4 := q30_4.rm
 have q30_r5 := q30_5.rm
 simp only [inK] at q30_8 q30_9
 refine VO.inv _ (fun _ h => h.parts (i := 1) rfl q30_S [136, 131, 132, 133, 134, 135]) ?_
 refine VO.y rfl (.ld1 136 rfl tk25 rfl (cellsAt_one rfl rfl)) ?_
 refine VO.inv _ (fun _ h => h.nilc 138) ?_
 obtain ⟨mo37, cs37, hM37, hA37, hC37⟩ := (OwnL.nil .byte mnil mnil)
 obtain ⟨all37, hS37, hR37⟩ := Rd.srcI (P := Try.prog) ((OwnL.rd (Ow.ownl q30_3 rfl mnil) (mle_refl _) (mle_nil _))) Try.underlying25
 refine VO.app 138 rfl rfl rfl tsl25 tz5 rfl rfl hM37 hA37 (hS37 _ 133 rfl) hR37.nice bdm bd (by decide) (fun v37 m37 hN37 => ?_)
 have ho37 : OwnL .byte m37 mnil v37 (d0.2.1.2.2.1) := OwnL.more hC37 hN37 (All2c.mono hR37 fun _ _ h => Rd.flat rfl h _)
 obtain ⟨A37, c37, rfl, l37, k37⟩ := ho37.slice
 simp only [maxLen] at k37
 refine VO.as ?_
 refine VO.kp [138, 136, 131, 132, 133, 134, 135, 0] [(138, m37), (136, mone g0 (.cells #[.bool d0.1, .slice q30_A1 (d0.2.1.1.length) (q30_c1), .slice q30_A2 (d0.2.1.2.1.length) (q30_c2), .slice q30_A3 (d0.2.1.2.2.1.length) (q30_c3), .slice q30_A4 (d0.2.1.2.2.2.length) (q30_c4), .slice q30_A5 (d0.2.2.1.length) (q30_c5), .bool d0.2.2.2.1, .bool d0.2.2.2.2.1, .int .i64 (d0.2.2.2.2.2.1), .int .i64 (d0.2.2.2.2.2.2)] q30_E (0, 0))), (131, q30_n1), (132, q30_n2), (133, q30_n3), (134, q30_n4), (135, q30_n5), (0, mout (wm W) (m0))] ?_
 refine VO.k4 0 1 4 5 (VC.seq (VC.rs (VO.as (VO.k5 0 1 4 5 6 (VC.block ?_)))))
 refine VC.loop (G := Nat × (List UInt8) × (Option Addr) × Nat × Mem) (fun g => [(5, .slice (g.2.2.1) ((g.2.1).length) ((g.2.2.2.1))), (6, .int .i64 ((((g.1) : Nat) : Int))), (0, .pointer (some ⟨g0, 0, none⟩)), (1, .int .i64 (d1)), (4, .slice none (0) (0))]) (fun g => [(138, (g.2.2.2.2)), (136, mone g0 (.cells #[.bool d0.1, .slice q30_A1 (d0.2.1.1.length) (q30_c1), .slice q30_A2 (d0.2.1.2.1.length) (q30_c2), .slice q30_A3 (d0.2.1.2.2.1.length) (q30_c3), .slice q30_A4 (d0.2.1.2.2.2.length) (q30_c4), .slice q30_A5 (d0.2.2.1.length) (q30_c5), .bool d0.2.2.2.1, .bool d0.2.2.2.2.1, .int .i64 (d0.2.2.2.2.2.1), .int .i64 (d0.2.2.2.2.2.2)] q30_E (0, 0))), (131, q30_n1), (132, q30_n2), (133, q30_n3), (134, q30_n4), (135, q30_n5), (0, mout (wm W) (m0))]) (fun g => ((g.1) ≤ d0.2.2.1.length) ∧ ((g.2.1) = heldB d0.2.1 ((d0.2.2.1.map stepOf).take (g.1)) d1) ∧ (OwnL .byte (g.2.2.2.2) mnil (.slice (g.2.2.1) (g.2.1).length (g.2.2.2.1)) (g.2.1))) (fun g => d0.2.2.1.length - (g.1)) (0, d0.2.1.2.2.1, A37, c37, m37) (⟨by omega, by first | exact (getF0 ‹d1 = (0 : Int)›).symm | exact (getF1 ‹d1 = (1 : Int)›).symm | exact (getF2 ‹d1 = (2 : Int)›).symm | exact (getF3 ‹d1 = (3 : Int)›).symm, ho37⟩) ⟨⟨rfl, rfl, rfl, rfl, rfl, trivial⟩, fun _ h => h.sub [138, 136, 131, 132, 133, 134, 135, 0]⟩ ?_
 rintro ⟨k, b, b_A, b_c, b_m⟩ ⟨hk, hb, h_b⟩
 replace hk : k ≤ d0.2.2.1.length := hk
 replace hb : b = heldB d0.2.1 ((d0.2.2.1.map stepOf).take k) d1 := hb
 replace h_b : OwnL .byte b_m mnil (.slice b_A b.length b_c) b := h_b
 show VC _ _ _ _ _ [(5, .slice b_A (b.length) (b_c)), (6, .int .i64 (((k : Nat) : Int))), (0, .pointer (some ⟨g0, 0, none⟩)), (1, .int .i64 (d1)), (4, .slice none (0) (0))] [(138, b_m), (136, mone g0 (.cells #[.bool d0.1, .slice q30_A1 (d0.2.1.1.length) (q30_c1), .slice q30_A2 (d0.2.1.2.1.length) (q30_c2), .slice q30_A3 (d0.2.1.2.2.1.length) (q30_c3), .slice q30_A4 (d0.2.1.2.2.2.length) (q30_c4), .slice q30_A5 (d0.2.2.1.length) (q30_c5), .bool d0.2.2.2.1, .bool d0.2.2.2.2.1, .int .i64 (d0.2.2.2.2.2.1), .int .i64 (d0.2.2.2.2.2.2)] q30_E (0, 0))), (131, q30_n1), (132, q30_n2), (133, q30_n3), (134, q30_n4), (135, q30_n5), (0, mout (wm W) (m0))]
 have l_b : b.length ≤ b_c := by obtain ⟨_, _, he, hl, _⟩ := h_b.slice; simp only [Value.slice.injEq] at he; omega
 have k_b : b_c ≤ 9223372036854775807 := by obtain ⟨_, _, he, _, hl⟩ := h_b.slice; simp only [Value.slice.injEq, maxLen] at he hl; omega
 refine VC.seq (VC.rs (VO.mv (VO.mv (VO.y rfl (.nilp rfl) (VO.y rfl (.fa rfl tst99 rfl) (VO.y rfl (.ld1 136 rfl tk97 rfl (cellsAt_one rfl rfl)) ?_))))))
 refine VO.y rfl (.lenS rfl tsl97) ?_
 refine VO.y rfl (.lss rfl rfl) (VO.k6 0 1 4 5 6 21 ?_)
 refine VC.cond rfl (fun hc39 => ?_) (fun hc39 => ?_)
 refine VC.skip (outN (VC.seq (VC.block (VC.rs (VO.mv (VO.y rfl (.nilp rfl) (VO.y rfl (.fa rfl tst99 rfl) (VO.y rfl (.ld1 136 rfl tk97 rfl (cellsAt_one rfl rfl)) (VO.mv ?_)))))))))
 obtain ⟨x40, hx40⟩ : ∃ z_, (d0.2.2.1)[k]? = some z_ := ⟨_, List.getElem?_eq_getElem bd⟩
 obtain ⟨gg40, oo40, ec40, ea40, hce40, hre40⟩ := (Ow.rd q30_5 (mle_refl _)).elem hx40
 cases ea40
 obtain ⟨q40_A3, q40_c3, rfl, q40_0, q40_2, q40_3⟩ := open_ref05Raw (x0 := x40.1) (x1 := x40.2.1) (x2 := x40.2.2.1) (x3 := x40.2.2.2) hre40
 simp only [inK] at q40_0 q40_2
 have q40_r3 := Rd.room q40_3
 refine VO.y rfl (.ixI k rfl rfl tsl97 rfl bd) ?_
 refine VO.y rfl (.fa rfl tst103 rfl) ?_
 refine VO.y rfl (.ld1 135 rfl tk3 rfl (hce40.at1 (j := 0) rfl)) ?_
 refine VO.mv (VO.y rfl (.eql rfl rfl) ?_)
 refine VO.kp [138, 136, 131, 132, 133, 134, 135, 0] [(138, b_m), (136, mone g0 (.cells #[.bool d0.1, .slice q30_A1 (d0.2.1.1.length) (q30_c1), .slice q30_A2 (d0.2.1.2.1.length) (q30_c2), .slice q30_A3 (d0.2.1.2.2.1.length) (q30_c3), .slice q30_A4 (d0.2.1.2.2.2.length) (q30_c4), .slice (some ⟨gg40, oo40, none⟩) (d0.2.2.1.length) (q30_c5), .bool d0.2.2.2.1, .bool d0.2.2.2.2.1, .int .i64 (d0.2.2.2.2.2.1), .int .i64 (d0.2.2.2.2.2.2)] q30_E (0, 0))), (131, q30_n1), (132, q30_n2), (133, q30_n3), (134, q30_n4), (135, q30_n5), (0, mout (wm W) (m0))] ?_
 refine VO.k7 0 1 4 5 6 21 33 ?_
 refine VC.cond rfl (fun hc41 => ?_) (fun hc41 => ?_)
 refine VC.reg ?_
 refine VO.mv (VO.mv (VO.y rfl (.nilp rfl) (VO.y rfl (.fa rfl tst99 rfl) (VO.y rfl (.ld1 136 rfl tk97 rfl (cellsAt_one rfl rfl)) (VO.mv ?_)))))
 refine VO.y rfl (.ixI k rfl rfl tsl97 rfl bd) ?_
 refine VO.y rfl (.ldA 135 rfl tk103 rfl hce40) ?_
 refine VO.callN 143 rfl fnOk85 rfl (fun W hW => rWith_ok W (OwnL.rd h_b (hW.at (i := 138) rfl) (mle_nil _)) (Rd.mono hre40 (hW.at (i := 135) rfl)) (by (have h_ := held_cut hok0.1 hb (get_step ‹d0.2.2.1[k]? = some _›) e2 ‹_ = d1›; exact fun hc_ => h_ (stepC hc_))) (by (have h_ := held_room hb (get_step ‹d0.2.2.1[k]? = some _›); simp only [sizeQ, stepOf] at h_; omega))) (fun v43 m43 hv43 => ?_)
 obtain ⟨s43_0, rfl, f43_0⟩ := hv43
 obtain ⟨A43_0, c43_0, eq43_0, l43_0, k43_0⟩ := f43_0.slice
 subst eq43_0
 simp only [maxLen] at k43_0
 refine VO.as (VO.k7 0 1 4 5 6 21 33 (outBN (outN ?_)))
 refine VC.reg ?_
 refine VO.mv ?_
 refine VO.y rfl (.add (c := ((k + 1 : Nat) : Int)) rfl rfl (by omega) ⟨bd, bd⟩) ?_
 refine VO.as (VO.k7 0 1 4 5 6 21 33 ?_)
 exact outN ⟨⟨k + 1, doneR b x40, A43_0, c43_0, m43⟩, ⟨by omega, by first | (have h_ := held_yes hb (get_step ‹d0.2.2.1[k]? = some _›) ‹_ = d1›; rw [← doneR_is] at h_; exact h_) | exact held_no hb (get_step ‹d0.2.2.1[k]? = some _›) ‹¬ _ = d1›, (Ow.ownl f43_0 rfl mnil)⟩, by (dsimp only; omega), ⟨⟨rfl, rfl, rfl, rfl, rfl, trivial⟩, fun _ h => Inv.sub (Inv.num h 143 138 rfl) [138, 136, 131, 132, 133, 134, 135, 0]⟩⟩
 refine VC.skip (outBN (outN ?_))
 refine VC.reg ?_
 refine VO.mv ?_
 refine VO.y rfl (.add (c := ((k + 1 : Nat) : Int)) rfl rfl (by omega) ⟨bd, bd⟩) ?_
 refine VO.as (VO.k7 0 1 4 5 6 21 33 ?_)
 exact outN ⟨⟨k + 1, b, b_A, b_c, b_m⟩, ⟨by omega, by first | (have h_ := held_yes hb (get_step ‹d0.2.2.1[k]? = some _›) ‹_ = d1›; rw [← doneR_is] at h_; exact h_) | exact held_no hb (get_step ‹d0.2.2.1[k]? = some _›) ‹¬ _ = d1›, h_b⟩, by (dsimp only; omega), ⟨⟨rfl, rfl, rfl, rfl, rfl, trivial⟩, fun _ h => Inv.sub h [138, 136, 131, 132, 133, 134, 135, 0]⟩⟩
 · refine VC.exit (outE (outE (outBB (outN (VC.rs (VO.mv (VO.as ?_)))))))
   refine VO.kp [138, 136, 131, 132, 133, 134, 135, 0] [(138, b_m), (136, mone g0 (.cells #[.bool d0.1, .slice q30_A1 (d0.2.1.1.length) (q30_c1), .slice q30_A2 (d0.2.1.2.1.length) (q30_c2), .slice q30_A3 (d0.2.1.2.2.1.length) (q30_c3), .slice q30_A4 (d0.2.1.2.2.2.length) (q30_c4), .slice q30_A5 (d0.2.2.1.length) (q30_c5), .bool d0.2.2.2.1, .bool d0.2.2.2.2.1, .int .i64 (d0.2.2.2.2.2.1), .int .i64 (d0.2.2.2.2.2.2)] q30_E (0, 0))), (131, q30_n1), (132, q30_n2), (133, q30_n3), (134, q30_n4), (135, q30_n5), (0, mout (wm W) (m0))] ?_
   refine VO.k6 0 1 4 5 6 21 (VC.ret ?_)
   refine ⟨_, _, res_run (rs := [.tmp 4]) rfl (.tmp rfl .nil), fun W_ hI => out_of (l := [b_m, mone g0 (.cells #[.bool d0.1, .slice q30_A1 (d0.2.1.1.length) (q30_c1), .slice q30_A2 (d0.2.1.2.1.length) (q30_c2), .slice q30_A3 (d0.2.1.2.2.1.length) (q30_c3), .slice q30_A4 (d0.2.1.2.2.2.length) (q30_c4), .slice q30_A5 (d0.2.2.1.length) (q30_c5), .bool d0.2.2.2.1, .bool d0.2.2.2.2.1, .int .i64 (d0.2.2.2.2.2.1), .int .i64 (d0.2.2.2.2.2.2)] q30_E (0, 0)), q30_n1, q30_n2, q30_n3, q30_n4, q30_n5]) hI [138, 136, 131, 132, 133, 134, 135] rfl rfl (mle_refl _) (fun hS_ => ?_)⟩
   dsimp only [packV]
   have he0 : (heldB d0.2.1 (d0.2.2.1.map stepOf) d1 : Ty.Den (.sl .byte)) = b := by first | rfl | (rw [hb, List.take_of_length_le (by rw [List.length_map]; omega)])
   have hm0_ : (d0 : Dref05Disk) = d0 := by first | rfl | (rw [hb, List.take_of_length_le (by rw [List.length_map]; omega)])
   refine ⟨Value.slice b_A (b.length) (b_c), muns [b_m], muns [mone g0 (.cells [Value.bool d0.1, Value.slice q30_A1 (d0.2.1.1.length) (q30_c1), Value.slice q30_A2 (d0.2.1.2.1.length) (q30_c2), Value.slice q30_A3 (d0.2.1.2.2.1.length) (q30_c3), Value.slice q30_A4 (d0.2.1.2.2.2.length) (q30_c4), Value.slice q30_A5 (d0.2.2.1.length) (q30_c5), Value.bool d0.2.2.2.1, Value.bool d0.2.2.2.2.1, Value.int .i64 (d0.2.2.2.2.2.1), Value.int .i64 (d0.2.2.2.2.2.2)].toArray q30_E (0, 0)), q30_n1, q30_n2, q30_n3, q30_n4, q30_n5], ?_, ?_, ?_, ?_⟩
   rotate_left
   · exact Seps.grp (ls := [[b_m], [mone g0 (.cells [Value.bool d0.1, Value.slice q30_A1 (d0.2.1.1.length) (q30_c1), Value.slice q30_A2 (d0.2.1.2.1.length) (q30_c2), Value.slice q30_A3 (d0.2.1.2.2.1.length) (q30_c3), Value.slice q30_A4 (d0.2.1.2.2.2.length) (q30_c4), Value.slice q30_A5 (d0.2.2.1.length) (q30_c5), Value.bool d0.2.2.2.1, Value.bool d0.2.2.2.2.1, Value.int .i64 (d0.2.2.2.2.2.1), Value.int .i64 (d0.2.2.2.2.2.2)].toArray q30_E (0, 0)), q30_n1, q30_n2, q30_n3, q30_n4, q30_n5]]) hS_
   · rw [he0]; exact (Ow.up (OwnL.ow h_b rfl) ((Seps.self hS_ (List.Sublist.cons_cons _ (List.Sublist.cons _ (List.Sublist.cons _ (List.Sublist.cons _ (List.Sublist.cons _ (List.Sublist.cons _ (List.Sublist.cons _ List.Sublist.slnil)))))))).1 _ (.head _)))
   · rw [hm0_]; exact (show Ow (.ptr Tref05Disk) _ _ (_, d0) from (mkP_ref05Disk d0.1 d0.2.1.1 d0.2.1.2.1 d0.2.1.2.2.1 d0.2.1.2.2.2 d0.2.2.1 d0.2.2.2.1 d0.2.2.2.2.1 d0.2.2.2.2.2.1 d0.2.2.2.2.2.2 (Seps.self hS_ (List.Sublist.cons _ (List.Sublist.cons_cons _ (List.Sublist.cons_cons _ (List.Sublist.cons_cons _ (List.Sublist.cons_cons _ (List.Sublist.cons_cons _ (List.Sublist.cons_cons _ List.Sublist.slnil)))))))) (OwnL.ow (Ow.ownl q30_1 rfl mnil) rfl) (OwnL.ow (Ow.ownl q30_2 rfl mnil) rfl) (OwnL.ow (Ow.ownl q30_3 rfl mnil) rfl) (OwnL.ow (Ow.ownl q30_4 rfl mnil) rfl) q30_5 bdk bdk))
   all_goals (first | rfl | (simp [*]; done))
 refine VO.y rfl (.ixa (i := 3) (o := 4) rfl rfl tar69 hi1 rfl rfl) ?_
 obtain ⟨q44_E, q44_A1, q44_c1, q44_A2, q44_c2, q44_A3, q44_c3, q44_A4, q44_c4, q44_A5, q44_c5, q44_n1, q44_n2, q44_n3, q44_n4, q44_n5, _, q44_S, q44_1, q44_2, q44_3, q44_4, q44_5, q44_8, q44_9⟩ := openP_ref05Disk (x0 := d0.1) (x1 := d0.2.1.1) (x2 := d0.2.1.2.1) (x3 := d0.2.1.2.2.1) (x4 := d0.2.1.2.2.2) (x5 := d0.2.2.1) (x6 := d0.2.2.2.1) (x7 := d0.2.2.2.2.1) (x8 := d0.2.2.2.2.2.1) (x9 := d0.2.2.2.2.2.2) h0
 have q44_r1 := q44_1.rm
 have q44_r2 := q44_2.rm
 have q44_r3 := q44_3.rm
 have q44_r4 := q44_4.rm
 have q44_r5 := q44_5.rm
 simp only [inK] at q44_8 q44_9
 refine VO.inv _ (fun _ h => h.parts (i := 1) rfl q44_S [150, 145, 146, 147, 148, 149]) ?_
 refine VO.y rfl (.ld1 150 rfl tk25 rfl (cellsAt_one rfl rfl)) ?_
 refine VO.inv _ (fun _ h => h.nilc 152) ?_
 obtain ⟨mo51, cs51, hM51, hA51, hC51⟩ := (OwnL.nil .byte mnil mnil)
 obtain ⟨all51, hS51, hR51⟩ := Rd.srcI (P := Try.prog) ((OwnL.rd (Ow.ownl q44_4 rfl mnil) (mle_refl _) (mle_nil _))) Try.underlying25
 refine VO.app 152 rfl rfl rfl tsl25 tz5 rfl rfl hM51 hA51 (hS51 _ 148 rfl) hR51.nice bdm bd (by decide) (fun v51 m51 hN51 => ?_)
 have ho51 : OwnL .byte m51 mnil v51 (d0.2.1.2.2.2) := OwnL.more hC51 hN51 (All2c.mono hR51 fun _ _ h => Rd.flat rfl h _)
 obtain ⟨A51, c51, rfl, l51, k51⟩ := ho51.slice
 simp only [maxLen] at k51
 refine VO.as ?_
 refine VO.kp [152, 150, 145, 146, 147, 148, 149, 0] [(152, m51), (150, mone g0 (.cells #[.bool d0.1, .slice q44_A1 (d0.2.1.1.length) (q44_c1), .slice q44_A2 (d0.2.1.2.1.length) (q44_c2), .slice q44_A3 (d0.2.1.2.2.1.length) (q44_c3), .slice q44_A4 (d0.2.1.2.2.2.length) (q44_c4), .slice q44_A5 (d0.2.2.1.length) (q44_c5), .bool d0.2.2.2.1, .bool d0.2.2.2.2.1, .int .i64 (d0.2.2.2.2.2.1), .int .i64 (d0.2.2.2.2.2.2)] q44_E (0, 0))), (145, q44_n1), (146, q44_n2), (147, q44_n3), (148, q44_n4), (149, q44_n5), (0, mout (wm W) (m0))] ?_
 refine VO.k4 0 1 4 5 (VC.seq (VC.rs (VO.as (VO.k5 0 1 4 5 6 (VC.block ?_)))))
 refine VC.loop (G := Nat × (List UInt8) × (Option Addr) × Nat × Mem) (fun g => [(5, .slice (g.2.2.1) ((g.2.1).length) ((g.2.2.2.1))), (6, .int .i64 ((((g.1) : Nat) : Int))), (0, .pointer (some ⟨g0, 0, none⟩)), (1, .int .i64 (d1)), (4, .slice none (0) (0))]) (fun g => [(152, (g.2.2.2.2)), (150, mone g0 (.cells #[.bool d0.1, .slice q44_A1 (d0.2.1.1.length) (q44_c1), .slice q44_A2 (d0.2.1.2.1.length) (q44_c2), .slice q44_A3 (d0.2.1.2.2.1.length) (q44_c3), .slice q44_A4 (d0.2.1.2.2.2.length) (q44_c4), .slice q44_A5 (d0.2.2.1.length) (q44_c5), .bool d0.2.2.2.1, .bool d0.2.2.2.2.1, .int .i64 (d0.2.2.2.2.2.1), .int .i64 (d0.2.2.2.2.2.2)] q44_E (0, 0))), (145, q44_n1), (146, q44_n2), (147, q44_n3), (148, q44_n4), (149, q44_n5), (0, mout (wm W) (m0))]) (fun g => ((g.1) ≤ d0.2.2.1.length) ∧ ((g.2.1) = heldB d0.2.1 ((d0.2.2.1.map stepOf).take (g.1)) d1) ∧ (OwnL .byte (g.2.2.2.2) mnil (.slice (g.2.2.1) (g.2.1).length (g.2.2.2.1)) (g.2.1))) (fun g => d0.2.2.1.length - (g.1)) (0, d0.2.1.2.2.2, A51, c51, m51) (⟨by omega, by first | exact (getF0 ‹d1 = (0 : Int)›).symm | exact (getF1 ‹d1 = (1 : Int)›).symm | exact (getF2 ‹d1 = (2 : Int)›).symm | exact (getF3 ‹d1 = (3 : Int)›).symm, ho51⟩) ⟨⟨rfl, rfl, rfl, rfl, rfl, trivial⟩, fun _ h => h.sub [152, 150, 145, 146, 147, 148, 149, 0]⟩ ?_
 rintro ⟨k, b, b_A, b_c, b_m⟩ ⟨hk, hb, h_b⟩
 replace hk : k ≤ d0.2.2.1.length := hk
 replace hb : b = heldB d0.2.1 ((d0.2.2.1.map stepOf).take k) d1 := hb
 replace h_b : OwnL .byte b_m mnil (.slice b_A b.length b_c) b := h_b
 show VC _ _ _ _ _ [(5, .slice b_A (b.length) (b_c)), (6, .int .i64 (((k : Nat) : Int))), (0, .pointer (some ⟨g0, 0, none⟩)), (1, .int .i64 (d1)), (4, .slice none (0) (0))] [(152, b_m), (150, mone g0 (.cells #[.bool d0.1, .slice q44_A1 (d0.2.1.1.length) (q44_c1), .slice q44_A2 (d0.2.1.2.1.length) (q44_c2), .slice q44_A3 (d0.2.1.2.2.1.length) (q44_c3), .slice q44_A4 (d0.2.1.2.2.2.length) (q44_c4), .slice q44_A5 (d0.2.2.1.length) (q44_c5), .bool d0.2.2.2.1, .bool d0.2.2.2.2.1, .int .i64 (d0.2.2.2.2.2.1), .int .i64 (d0.2.2.2.2.2.2)] q44_E (0, 0))), (145, q44_n1), (146, q44_n2), (147, q44_n3), (148, q44_n4), (149, q44_n5), (0, mout (wm W) (m0))]
 have l_b : b.length ≤ b_c := by obtain ⟨_, _, he, hl, _⟩ := h_b.slice; simp only [Value.slice.injEq] at he; omega
 have k_b : b_c ≤ 9223372036854775807 := by obtain ⟨_, _, he, _, hl⟩ := h_b.slice; simp only [Value.slice.injEq, maxLen] at he hl; omega
 refine VC.seq (VC.rs (VO.mv (VO.mv (VO.y rfl (.nilp rfl) (VO.y rfl (.fa rfl tst99 rfl) (VO.y rfl (.ld1 150 rfl tk97 rfl (cellsAt_one rfl rfl)) ?_))))))
 refine VO.y rfl (.lenS rfl tsl97) ?_
 refine VO.y rfl (.lss rfl rfl) (VO.k6 0 1 4 5 6 21 ?_)
 refine VC.cond rfl (fun hc53 => ?_) (fun hc53 => ?_)
 refine VC.skip (outN (VC.seq (VC.block (VC.rs (VO.mv (VO.y rfl (.nilp rfl) (VO.y rfl (.fa rfl tst99 rfl) (VO.y rfl (.ld1 150 rfl tk97 rfl (cellsAt_one rfl rfl)) (VO.mv ?_)))))))))
 obtain ⟨x54, hx54⟩ : ∃ z_, (d0.2.2.1)[k]? = some z_ := ⟨_, List.getElem?_eq_getElem bd⟩
 obtain ⟨gg54, oo54, ec54, ea54, hce54, hre54⟩ := (Ow.rd q44_5 (mle_refl _)).elem hx54
 cases ea54
 obtain ⟨q54_A3, q54_c3, rfl, q54_0, q54_2, q54_3⟩ := open_ref05Raw (x0 := x54.1) (x1 := x54.2.1) (x2 := x54.2.2.1) (x3 := x54.2.2.2) hre54
 simp only [inK] at q54_0 q54_2
 have q54_r3 := Rd.room q54_3
 refine VO.y rfl (.ixI k rfl rfl tsl97 rfl bd) ?_
 refine VO.y rfl (.fa rfl tst103 rfl) ?_
 refine VO.y rfl (.ld1 149 rfl tk3 rfl (hce54.at1 (j := 0) rfl)) ?_
 refine VO.mv (VO.y rfl (.eql rfl rfl) ?_)
 refine VO.kp [152, 150, 145, 146, 147, 148, 149, 0] [(152, b_m), (150, mone g0 (.cells #[.bool d0.1, .slice q44_A1 (d0.2.1.1.length) (q44_c1), .slice q44_A2 (d0.2.1.2.1.length) (q44_c2), .slice q44_A3 (d0.2.1.2.2.1.length) (q44_c3), .slice q44_A4 (d0.2.1.2.2.2.length) (q44_c4), .slice (some ⟨gg54, oo54, none⟩) (d0.2.2.1.length) (q44_c5), .bool d0.2.2.2.1, .bool d0.2.2.2.2.1, .int .i64 (d0.2.2.2.2.2.1), .int .i64 (d0.2.2.2.2.2.2)] q44_E (0, 0))), (145, q44_n1), (146, q44_n2), (147, q44_n3), (148, q44_n4), (149, q44_n5), (0, mout (wm W) (m0))] ?_
 refine VO.k7 0 1 4 5 6 21 33 ?_
 refine VC.cond rfl (fun hc55 => ?_) (fun hc55 => ?_)
 refine VC.reg ?_
 refine VO.mv (VO.mv (VO.y rfl (.nilp rfl) (VO.y rfl (.fa rfl tst99 rfl) (VO.y rfl (.ld1 150 rfl tk97 rfl (cellsAt_one rfl rfl)) (VO.mv ?_)))))
 refine VO.y rfl (.ixI k rfl rfl tsl97 rfl bd) ?_
 refine VO.y rfl (.ldA 149 rfl tk103 rfl hce54) ?_
 refine VO.callN 157 rfl fnOk85 rfl (fun W hW => rWith_ok W (OwnL.rd h_b (hW.at (i := 152) rfl) (mle_nil _)) (Rd.mono hre54 (hW.at (i := 149) rfl)) (by (have h_ := held_cut hok0.1 hb (get_step ‹d0.2.2.1[k]? = some _›) e2 ‹_ = d1›; exact fun hc_ => h_ (stepC hc_))) (by (have h_ := held_room hb (get_step ‹d0.2.2.1[k]? = some _›); simp only [sizeQ, stepOf] at h_; omega))) (fun v57 m57 hv57 => ?_)
 obtain ⟨s57_0, rfl, f57_0⟩ := hv57
 obtain ⟨A57_0, c57_0, eq57_0, l57_0, k57_0⟩ := f57_0.slice
 subst eq57_0
 simp only [maxLen] at k57_0
 refine VO.as (VO.k7 0 1 4 5 6 21 33 (outBN (outN ?_)))
 refine VC.reg ?_
 refine VO.mv ?_
 refine VO.y rfl (.add (c := ((k + 1 : Nat) : Int)) rfl rfl (by omega) ⟨bd, bd⟩) ?_
 refine VO.as (VO.k7 0 1 4 5 6 21 33 ?_)
 exact outN ⟨⟨k + 1, doneR b x54, A57_0, c57_0, m57⟩, ⟨by omega, by first | (have h_ := held_yes hb (get_step ‹d0.2.2.1[k]? = some _›) ‹_ = d1›; rw [← doneR_is] at h_; exact h_) | exact held_no hb (get_step ‹d0.2.2.1[k]? = some _›) ‹¬ _ = d1›, (Ow.ownl f57_0 rfl mnil)⟩, by (dsimp only; omega), ⟨⟨rfl, rfl, rfl, rfl, rfl, trivial⟩, fun _ h => Inv.sub (Inv.num h 157 152 rfl) [152, 150, 145, 146, 147, 148, 149, 0]⟩⟩
 refine VC.skip (outBN (outN ?_))
 refine VC.reg ?_
 refine VO.mv ?_
 refine VO.y rfl (.add (c := ((k + 1 : Nat) : Int)) rfl rfl (by omega) ⟨bd, bd⟩) ?_
 refine VO.as (VO.k7 0 1 4 5 6 21 33 ?_)
 exact outN ⟨⟨k + 1, b, b_A, b_c, b_m⟩, ⟨by omega, by first | (have h_ := held_yes hb (get_step ‹d0.2.2.1[k]? = some _›) ‹_ = d1›; rw [← doneR_is] at h_; exact h_) | exact held_no hb (get_step ‹d0.2.2.1[k]? = some _›) ‹¬ _ = d1›, h_b⟩, by (dsimp only; omega), ⟨⟨rfl, rfl, rfl, rfl, rfl, trivial⟩, fun _ h => Inv.sub h [152, 150, 145, 146, 147, 148, 149, 0]⟩⟩
 · refine VC.exit (outE (outE (outBB (outN (VC.rs (VO.mv (VO.as ?_)))))))
   refine VO.kp [152, 150, 145, 146, 147, 148, 149, 0] [(152, b_m), (150, mone g0 (.cells #[.bool d0.1, .slice q44_A1 (d0.2.1.1.length) (q44_c1), .slice q44_A2 (d0.2.1.2.1.length) (q44_c2), .slice q44_A3 (d0.2.1.2.2.1.length) (q44_c3), .slice q44_A4 (d0.2.1.2.2.2.length) (q44_c4), .slice q44_A5 (d0.2.2.1.length) (q44_c5), .bool d0.2.2.2.1, .bool d0.2.2.2.2.1, .int .i64 (d0.2.2.2.2.2.1), .int .i64 (d0.2.2.2.2.2.2)] q44_E (0, 0))), (145, q44_n1), (146, q44_n2), (147, q44_n3), (148, q44_n4), (149, q44_n5), (0, mout (wm W) (m0))] ?_
   refine VO.k6 0 1 4 5 6 21 (VC.ret ?_)
   refine ⟨_, _, res_run (rs := [.tmp 4]) rfl (.tmp rfl .nil), fun W_ hI => out_of (l := [b_m, mone g0 (.cells #[.bool d0.1, .slice q44_A1 (d0.2.1.1.length) (q44_c1), .slice q44_A2 (d0.2.1.2.1.length) (q44_c2), .slice q44_A3 (d0.2.1.2.2.1.length) (q44_c3), .slice q44_A4 (d0.2.1.2.2.2.length) (q44_c4), .slice q44_A5 (d0.2.2.1.length) (q44_c5), .bool d0.2.2.2.1, .bool d0.2.2.2.2.1, .int .i64 (d0.2.2.2.2.2.1), .int .i64 (d0.2.2.2.2.2.2)] q44_E (0, 0)), q44_n1, q44_n2, q44_n3, q44_n4, q44_n5]) hI [152, 150, 145, 146, 147, 148, 149] rfl rfl (mle_refl _) (fun hS_ => ?_)⟩
   dsimp only [packV]
   have he0 : (heldB d0.2.1 (d0.2.2.1.map stepOf) d1 : Ty.Den (.sl .byte)) = b := by first | rfl | (rw [hb, List.take_of_length_le (by rw [List.length_map]; omega)])
   have hm0_ : (d0 : Dref05Disk) = d0 := by first | rfl | (rw [hb, List.take_of_length_le (by rw [List.length_map]; omega)])
   refine ⟨Value.slice b_A (b.length) (b_c), muns [b_m], muns [mone g0 (.cells [Value.bool d0.1, Value.slice q44_A1 (d0.2.1.1.length) (q44_c1), Value.slice q44_A2 (d0.2.1.2.1.length) (q44_c2), Value.slice q44_A3 (d0.2.1.2.2.1.length) (q44_c3), Value.slice q44_A4 (d0.2.1.2.2.2.length) (q44_c4), Value.slice q44_A5 (d0.2.2.1.length) (q44_c5), Value.bool d0.2.2.2.1, Value.bool d0.2.2.2.2.1, Value.int .i64 (d0.2.2.2.2.2.1), Value.int .i64 (d0.2.2.2.2.2.2)].toArray q44_E (0, 0)), q44_n1, q44_n2, q44_n3, q44_n4, q44_n5], ?_, ?_, ?_, ?_⟩
   rotate_left
   · exact Seps.grp (ls := [[b_m], [mone g0 (.cells [Value.bool d0.1, Value.slice q44_A1 (d0.2.1.1.length) (q44_c1), Value.slice q44_A2 (d0.2.1.2.1.length) (q44_c2), Value.slice q44_A3 (d0.2.1.2.2.1.length) (q44_c3), Value.slice q44_A4 (d0.2.1.2.2.2.length) (q44_c4), Value.slice q44_A5 (d0.2.2.1.length) (q44_c5), Value.bool d0.2.2.2.1, Value.bool d0.2.2.2.2.1, Value.int .i64 (d0.2.2.2.2.2.1), Value.int .i64 (d0.2.2.2.2.2.2)].toArray q44_E (0, 0)), q44_n1, q44_n2, q44_n3, q44_n4, q44_n5]]) hS_
   · rw [he0]; exact (Ow.up (OwnL.ow h_b rfl) ((Seps.self hS_ (List.Sublist.cons_cons _ (List.Sublist.cons _ (List.Sublist.cons _ (List.Sublist.cons _ (List.Sublist.cons _ (List.Sublist.cons _ (List.Sublist.cons _ List.Sublist.slnil)))))))).1 _ (.head _)))
   · rw [hm0_]; exact (show Ow (.ptr Tref05Disk) _ _ (_, d0) from (mkP_ref05Disk d0.1 d0.2.1.1 d0.2.1.2.1 d0.2.1.2.2.1 d0.2.1.2.2.2 d0.2.2.1 d0.2.2.2.1 d0.2.2.2.2.1 d0.2.2.2.2.2.1 d0.2.2.2.2.2.2 (Seps.self hS_ (List.Sublist.cons _ (List.Sublist.cons_cons _ (List.Sublist.cons_cons _ (List.Sublist.cons_cons _ (List.Sublist.cons_cons _ (List.Sublist.cons_cons _ (List.Sublist.cons_cons _ List.Sublist.slnil)))))))) (OwnL.ow (Ow.ownl q44_1 rfl mnil) rfl) (OwnL.ow (Ow.ownl q44_2 rfl mnil) rfl) (OwnL.ow (Ow.ownl q44_3 rfl mnil) rfl) (OwnL.ow (Ow.ownl q44_4 rfl mnil) rfl) q44_5 bdk bdk))
   all_goals (first | rfl | (simp [*]; done))
theorem fin0_rKeep_ok {P : Prop} (h : P := by first | (have h_ := (play_cut hok0.1 hb (get_step ‹d0.2.2.1[k]? = some _›)).2; rw [getF0 (stepF ‹_ = (0 : Int)›)] at h_; exact fun hc_ => h_ (stepC hc_)) | (have h_ := (play_cut hok0.1 hb (get_step ‹d0.2.2.1[k]? = some _›)).2; rw [getF1 (stepF ‹_ = (1 : Int)›)] at h_; exact fun hc_ => h_ (stepC hc_)) | (have h_ := (play_cut hok0.1 hb (get_step ‹d0.2.2.1[k]? = some _›)).2; rw [getF2 (stepF ‹_ = (2 : Int)›)] at h_; exact fun hc_ => h_ (stepC hc_)) | (have h_ := (play_cut hok0.1 hb (get_step ‹d0.2.2.1[k]? = some _›)).2; rw [getF3 (stepF ‹_ = (3 : Int)›)] at h_; exact fun hc_ => h_ (stepC hc_))) : P := h
theorem fin1_rKeep_ok {P : Prop} (h : P := by first | (have h_ := play_room hb (get_step ‹d0.2.2.1[k]? = some _›); rw [getF0 (stepF ‹_ = (0 : Int)›)] at h_; simp only [sizeQ, stepOf] at h_; omega) | (have h_ := play_room hb (get_step ‹d0.2.2.1[k]? = some _›); rw [getF1 (stepF ‹_ = (1 : Int)›)] at h_; simp only [sizeQ, stepOf] at h_; omega) | (have h_ := play_room hb (get_step ‹d0.2.2.1[k]? = some _›); rw [getF2 (stepF ‹_ = (2 : Int)›)] at h_; simp only [sizeQ, stepOf] at h_; omega) | (have h_ := play_room hb (get_step ‹d0.2.2.1[k]? = some _›); rw [getF3 (stepF ‹_ = (3 : Int)›)] at h_; simp only [sizeQ, stepOf] at h_; omega)) : P := h
theorem fin2_rKeep_ok {P : Prop} (h : P := by first | omega | (simp only [List.length_append, List.length_nil, List.length_cons, List.length_take, List.length_drop] at *; omega) | (have h_ := (play_cut hok0.1 hb (get_step ‹d0.2.2.1[k]? = some _›)).1; simp only [inF, stepOf] at h_; omega)) : P := h
theorem rKeep_ok (W : World) {m0 : Mem} (hm : mle (m0) (wm W)) {g0 : Nat} {d0 : Dref05Disk} (h0 : Ow (.ptr Tref05Disk) m0 [.pointer (some ⟨g0, 0, none⟩)] (g0, d0)) (d1 : Int) (h1 : inK .i64 d1) (e0 : okR d0) (e1 : wD (fromR d0) ≤ 2*1000000000000) (e2 : 0 ≤ d1) : CallR Try.prog 80 [.pointer (some ⟨g0, 0, none⟩), .int .i64 d1] W (m0) (fun v m' => v = .tuple #[] ∧ Ow (.ptr Tref05Disk) m' [.pointer (some ⟨g0, 0, none⟩)] (g0, toR (keepR (fromR d0) d1.toNat) d0.2.2.2.2.2.1)) := by
 have hok0 : okD (fromR d0) := e0; obtain ⟨hg, hfu, hst⟩ := hok0; have hok0 : okD (fromR d0) := e0; simp only [wD, sizeQ] at e1; simp only [fromR] at e1 hfu hst
 have h1' := h1; simp only [inK] at h1'
 refine CallR.ofB (n := 42) hm Try.func80 rfl rfl rfl ?_
 refine VC.rs (VO.as (VO.k3 0 1 4 (VC.block ?_)))
 obtain ⟨q1_E, q1_A1, q1_c1, q1_A2, q1_c2, q1_A3, q1_c3, q1_A4, q1_c4, q1_A5, q1_c5, q1_n1, q1_n2, q1_n3, q1_n4, q1_n5, _, q1_S, q1_1, q1_2, q1_3, q1_4, q1_5, q1_8, q1_9⟩ := openP_ref05Disk (x0 := d0.1) (x1 := d0.2.1.1) (x2 := d0.2.1.2.1) (x3 := d0.2.1.2.2.1) (x4 := d0.2.1.2.2.2) (x5 := d0.2.2.1) (x6 := d0.2.2.2.1) (x7 := d0.2.2.2.2.1) (x8 := d0.2.2.2.2.2.1) (x9 := d0.2.2.2.2.2.2) h0
 have q1_r1 := q1_1.rm
 have q1_r2 := q1_2.rm
 have q1_r3 := q1_3.rm
 have q1_r4 := q1_4.rm
 have q1_r5 := q1_5.rm
 simp only [inK] at q1_8 q1_9
 refine VC.inv _ (fun _ h => h.parts (i := 1) rfl q1_S [107, 102, 103, 104, 105, 106]) ?_
 refine VC.loop (G := Nat × (List UInt8) × (Option Addr) × Nat × Mem × (List UInt8) × (Option Addr) × Nat × Mem × (List UInt8) × (Option Addr) × Nat × Mem × (List UInt8) × (Option Addr) × Nat × Mem) (fun g => [(4, .int .i64 ((((g.1) : Nat) : Int))), (0, .pointer (some ⟨g0, 0, none⟩)), (1, .int .i64 (d1))]) (fun g => [(107, mone g0 (.cells #[.bool d0.1, .slice (g.2.2.1) ((g.2.1).length) ((g.2.2.2.1)), .slice (g.2.2.2.2.2.2.1) ((g.2.2.2.2.2.1).length) ((g.2.2.2.2.2.2.2.1)), .slice (g.2.2.2.2.2.2.2.2.2.2.1) ((g.2.2.2.2.2.2.2.2.2.1).length) ((g.2.2.2.2.2.2.2.2.2.2.2.1)), .slice (g.2.2.2.2.2.2.2.2.2.2.2.2.2.2.1) ((g.2.2.2.2.2.2.2.2.2.2.2.2.2.1).length) ((g.2.2.2.2.2.2.2.2.2.2.2.2.2.2.2.1)), .slice q1_A5 (d0.2.2.1.length) (q1_c5), .bool d0.2.2.2.1, .bool d0.2.2.2.2.1, .int .i64 (d0.2.2.2.2.2.1), .int .i64 (d0.2.2.2.2.2.2)] q1_E (0, 0))), (102, (g.2.2.2.2.1)), (103, (g.2.2.2.2.2.2.2.2.1)), (104, (g.2.2.2.2.2.2.2.2.2.2.2.2.1)), (105, (g.2.2.2.2.2.2.2.2.2.2.2.2.2.2.2.2)), (106, q1_n5), (0, mout (wm W) (m0))]) (fun g => ((g.1) ≤ d1.toNat ∧ (g.1) ≤ d0.2.2.1.length) ∧ (((g.2.1), (g.2.2.2.2.2.1), (g.2.2.2.2.2.2.2.2.2.1), (g.2.2.2.2.2.2.2.2.2.2.2.2.2.1)) = play d0.2.1 ((d0.2.2.1.map stepOf).take (g.1))) ∧ (OwnL .byte (g.2.2.2.2.1) mnil (.slice (g.2.2.1) (g.2.1).length (g.2.2.2.1)) (g.2.1)) ∧ (OwnL .byte (g.2.2.2.2.2.2.2.2.1) mnil (.slice (g.2.2.2.2.2.2.1) (g.2.2.2.2.2.1).length (g.2.2.2.2.2.2.2.1)) (g.2.2.2.2.2.1)) ∧ (OwnL .byte (g.2.2.2.2.2.2.2.2.2.2.2.2.1) mnil (.slice (g.2.2.2.2.2.2.2.2.2.2.1) (g.2.2.2.2.2.2.2.2.2.1).length (g.2.2.2.2.2.2.2.2.2.2.2.1)) (g.2.2.2.2.2.2.2.2.2.1)) ∧ (OwnL .byte (g.2.2.2.2.2.2.2.2.2.2.2.2.2.2.2.2) mnil (.slice (g.2.2.2.2.2.2.2.2.2.2.2.2.2.2.1) (g.2.2.2.2.2.2.2.2.2.2.2.2.2.1).length (g.2.2.2.2.2.2.2.2.2.2.2.2.2.2.2.1)) (g.2.2.2.2.2.2.2.2.2.2.2.2.2.1))) (fun g => d1.toNat - (g.1)) (0, d0.2.1.1, q1_A1, q1_c1, q1_n1, d0.2.1.2.1, q1_A2, q1_c2, q1_n2, d0.2.1.2.2.1, q1_A3, q1_c3, q1_n3, d0.2.1.2.2.2, q1_A4, q1_c4, q1_n4) (⟨by omega, by rfl, (Ow.ownl q1_1 rfl mnil), (Ow.ownl q1_2 rfl mnil), (Ow.ownl q1_3 rfl mnil), (Ow.ownl q1_4 rfl mnil)⟩) ⟨⟨rfl, rfl, rfl, trivial⟩, fun _ h => h.sub [107, 102, 103, 104, 105, 106, 0]⟩ ?_
 rintro ⟨k, b0, b0_A, b0_c, b0_m, b1, b1_A, b1_c, b1_m, b2, b2_A, b2_c, b2_m, b3, b3_A, b3_c, b3_m⟩ ⟨hk, hb, h_b0, h_b1, h_b2, h_b3⟩
 replace hk : k ≤ d1.toNat ∧ k ≤ d0.2.2.1.length := hk
 replace hb : (b0, b1, b2, b3) = play d0.2.1 ((d0.2.2.1.map stepOf).take k) := hb
 replace h_b0 : OwnL .byte b0_m mnil (.slice b0_A b0.length b0_c) b0 := h_b0
 replace h_b1 : OwnL .byte b1_m mnil (.slice b1_A b1.length b1_c) b1 := h_b1
 replace h_b2 : OwnL .byte b2_m mnil (.slice b2_A b2.length b2_c) b2 := h_b2
 replace h_b3 : OwnL .byte b3_m mnil (.slice b3_A b3.length b3_c) b3 := h_b3
 show VC _ _ _ _ _ [(4, .int .i64 (((k : Nat) : Int))), (0, .pointer (some ⟨g0, 0, none⟩)), (1, .int .i64 (d1))] [(107, mone g0 (.cells #[.bool d0.1, .slice b0_A (b0.length) (b0_c), .slice b1_A (b1.length) (b1_c), .slice b2_A (b2.length) (b2_c), .slice b3_A (b3.length) (b3_c), .slice q1_A5 (d0.2.2.1.length) (q1_c5), .bool d0.2.2.2.1, .bool d0.2.2.2.2.1, .int .i64 (d0.2.2.2.2.2.1), .int .i64 (d0.2.2.2.2.2.2)] q1_E (0, 0))), (102, b0_m), (103, b1_m), (104, b2_m), (105, b3_m), (106, q1_n5), (0, mout (wm W) (m0))]
 have l_b0 : b0.length ≤ b0_c := by obtain ⟨_, _, he, hl, _⟩ := h_b0.slice; simp only [Value.slice.injEq] at he; omega
 have k_b0 : b0_c ≤ 9223372036854775807 := by obtain ⟨_, _, he, _, hl⟩ := h_b0.slice; simp only [Value.slice.injEq, maxLen] at he hl; omega
 have l_b1 : b1.length ≤ b1_c := by obtain ⟨_, _, he, hl, _⟩ := h_b1.slice; simp only [Value.slice.injEq] at he; omega
 have k_b1 : b1_c ≤ 9223372036854775807 := by obtain ⟨_, _, he, _, hl⟩ := h_b1.slice; simp only [Value.slice.injEq, maxLen] at he hl; omega
 have l_b2 : b2.length ≤ b2_c := by obtain ⟨_, _, he, hl, _⟩ := h_b2.slice; simp only [Value.slice.injEq] at he; omega
 have k_b2 : b2_c ≤ 9223372036854775807 := by obtain ⟨_, _, he, _, hl⟩ := h_b2.slice; simp only [Value.slice.injEq, maxLen] at he hl; omega
 have l_b3 : b3.length ≤ b3_c := by obtain ⟨_, _, he, hl, _⟩ := h_b3.slice; simp only [Value.slice.injEq] at he; omega
 have k_b3 : b3_c ≤ 9223372036854775807 := by obtain ⟨_, _, he, _, hl⟩ := h_b3.slice; simp only [Value.slice.injEq, maxLen] at he hl; omega
 refine VC.seq (VC.rs (VO.mv (VO.mv (VO.y rfl (.lss rfl rfl) (VO.mv ?_)))))
 refine VO.dec (t := 9) rfl (fun hc8 => ?_) (fun hc8 => ?_)
 refine VO.gy rfl ⟨_, rfl, rfl⟩ (.mv rfl) (VO.gy rfl ⟨_, rfl, rfl⟩ (.mv rfl) (VO.gy rfl ⟨_, rfl, rfl⟩ (.nilp rfl) ?_))
 refine VO.gy rfl ⟨_, rfl, rfl⟩ (.fa rfl tst99 rfl) ?_
 refine VO.gy rfl ⟨_, rfl, rfl⟩ (.ld1 107 rfl tk97 rfl (cellsAt_one rfl rfl)) ?_
 refine VO.gy rfl ⟨_, rfl, rfl⟩ (.lenS rfl tsl97) ?_
 refine VO.gy rfl ⟨_, rfl, rfl⟩ (.lss rfl rfl) (VO.y rfl (.pT rfl rfl) (VO.k4 0 1 4 17 ?_))
 refine VC.cond rfl (fun hc9 => ?_) (fun hc9 => ?_)
 refine VC.skip (outN (VC.seq (VC.block (VC.rs (VO.mv (VO.y rfl (.nilp rfl) (VO.y rfl (.fa rfl tst99 rfl) (VO.y rfl (.ld1 107 rfl tk97 rfl (cellsAt_one rfl rfl)) (VO.mv ?_)))))))))
 obtain ⟨x10, hx10⟩ : ∃ z_, (d0.2.2.1)[k]? = some z_ := ⟨_, List.getElem?_eq_getElem (by exact fin2_rKeep_ok)⟩
 obtain ⟨gg10, oo10, ec10, ea10, hce10, hre10⟩ := (Ow.rd q1_5 (mle_refl _)).elem hx10
 cases ea10
 obtain ⟨q10_A3, q10_c3, rfl, q10_0, q10_2, q10_3⟩ := open_ref05Raw (x0 := x10.1) (x1 := x10.2.1) (x2 := x10.2.2.1) (x3 := x10.2.2.2) hre10
 simp only [inK] at q10_0 q10_2
 have q10_r3 := Rd.room q10_3
 refine VO.y rfl (.ixI k rfl rfl tsl97 rfl (by exact fin2_rKeep_ok)) ?_
 refine VO.y rfl (.ldA 106 rfl tk103 rfl hce10) ?_
 refine VO.alloc 112 rfl tz103 (fun g11 => ?_)
 refine VO.store (k := 4) (c' := [Value.int .i64 (x10.1), Value.bool x10.2.1, Value.int .i64 (x10.2.2.1), Value.slice q10_A3 (x10.2.2.2.length) (q10_c3)]) 112 rfl rfl (.inl tk103) rfl rfl rfl rfl rfl ?_
 refine VO.kp [112, 107, 102, 103, 104, 105, 106, 0] [(112, mone g11 (.cells #[.int .i64 (x10.1), .bool x10.2.1, .int .i64 (x10.2.2.1), .slice q10_A3 (x10.2.2.2.length) (q10_c3)] 103 (0, 0))), (107, mone g0 (.cells #[.bool d0.1, .slice b0_A (b0.length) (b0_c), .slice b1_A (b1.length) (b1_c), .slice b2_A (b2.length) (b2_c), .slice b3_A (b3.length) (b3_c), .slice (some ⟨gg10, oo10, none⟩) (d0.2.2.1.length) (q1_c5), .bool d0.2.2.2.1, .bool d0.2.2.2.2.1, .int .i64 (d0.2.2.2.2.2.1), .int .i64 (d0.2.2.2.2.2.2)] q1_E (0, 0))), (102, b0_m), (103, b1_m), (104, b2_m), (105, b3_m), (106, q1_n5), (0, mout (wm W) (m0))] ?_
 refine VO.k5 0 1 4 5 17 ?_
 refine VC.regD _ 14 [(0, true), (1, true), (2, true), (3, true), (4, true), (5, true), (6, true), (7, true), (8, true), (9, true), (10, true), (12, true), (13, true), (11, false)] follows (by kernel_rfl) (fun _ h => h.sub [112, 107, 102, 103, 104, 105, 106, 0]) ?_
 refine VD.y rfl rfl (.inl rfl) (.mv rfl) (VD.y rfl rfl (.inl rfl) (.fa rfl tst103 rfl) (VD.y rfl rfl (.inl rfl) (.ld1 112 rfl tk3 rfl (cellsAt_one rfl rfl)) (VD.y rfl rfl (.inl rfl) (.mv rfl) (VD.y rfl rfl (.inl rfl) (.fa rfl tst103 rfl) (VD.y rfl rfl (.inl rfl) (.ld1 112 rfl tk3 rfl (cellsAt_one rfl rfl)) (VD.y rfl rfl (.inl rfl) (.nilp rfl) (VD.y rfl rfl (.inl rfl) (.fa rfl tst99 rfl) ?_)))))))
 rcases (show x10.1 = (0 : Int) ∨ x10.1 = (1 : Int) ∨ x10.1 = (2 : Int) ∨ x10.1 = (3 : Int) from by exact fin2_rKeep_ok) with hi13 | hi13 | hi13 | hi13
 refine VD.y rfl rfl (.inl rfl) (.ixa (i := 0) (o := 1) rfl rfl tar69 hi13 rfl rfl) ?_
 refine VD.y rfl rfl (.inl rfl) (.ld1 107 rfl tk25 rfl (cellsAt_one rfl rfl)) (VD.y rfl rfl (.inl rfl) (.ldA 112 rfl tk103 rfl (cellsAt_one rfl rfl)) (VD.y rfl rfl (.inl rfl) (.nilp rfl) (VD.y rfl rfl (.inl rfl) (.fa rfl tst99 rfl) ?_)))
 refine VD.callN 114 rfl rfl (.inl rfl) fnOk85 rfl (fun _ h => h.sub [112, 107, 102, 103, 104, 105, 106, 0]) (fun W hW => rWith_ok W (OwnL.rd h_b0 (hW.at (i := 102) rfl) (mle_nil _)) (Rd.mono hre10 (hW.at (i := 106) rfl)) (by exact fin0_rKeep_ok) (by exact fin1_rKeep_ok)) (fun v14 m14 hv14 => ?_)
 obtain ⟨s14_0, rfl, f14_0⟩ := hv14
 obtain ⟨A14_0, c14_0, eq14_0, l14_0, k14_0⟩ := f14_0.slice
 subst eq14_0
 simp only [maxLen] at k14_0
 refine VD.nil rfl ?_ rfl
 refine VO.y rfl (.ixa (i := 0) (o := 1) rfl rfl tar69 hi13 rfl rfl) ?_
 refine VO.store (k := 1) 107 rfl rfl (.inr ⟨tk25, rfl⟩) rfl rfl rfl rfl rfl ?_
 refine VO.k5 0 1 4 5 17 (outBN (outN ?_))
 refine VC.reg ?_
 refine VO.mv ?_
 refine VO.y rfl (.add (c := ((k + 1 : Nat) : Int)) rfl rfl (by omega) ⟨by exact fin2_rKeep_ok, by exact fin2_rKeep_ok⟩) ?_
 refine VO.as (VO.k5 0 1 4 5 17 ?_)
 exact outN ⟨⟨k + 1, doneR b0 x10, A14_0, c14_0, m14, b1, b1_A, b1_c, b1_m, b2, b2_A, b2_c, b2_m, b3, b3_A, b3_c, b3_m⟩, ⟨by omega, by first | (have h_ := play_next hb (get_step ‹d0.2.2.1[k]? = some _›); rw [stepQ, ← doneR_is, setQ0 (stepF ‹_ = (0 : Int)›), getF0 (stepF ‹_ = (0 : Int)›)] at h_; exact h_) | (have h_ := play_next hb (get_step ‹d0.2.2.1[k]? = some _›); rw [stepQ, ← doneR_is, setQ1 (stepF ‹_ = (1 : Int)›), getF1 (stepF ‹_ = (1 : Int)›)] at h_; exact h_) | (have h_ := play_next hb (get_step ‹d0.2.2.1[k]? = some _›); rw [stepQ, ← doneR_is, setQ2 (stepF ‹_ = (2 : Int)›), getF2 (stepF ‹_ = (2 : Int)›)] at h_; exact h_) | (have h_ := play_next hb (get_step ‹d0.2.2.1[k]? = some _›); rw [stepQ, ← doneR_is, setQ3 (stepF ‹_ = (3 : Int)›), getF3 (stepF ‹_ = (3 : Int)›)] at h_; exact h_), (Ow.ownl f14_0 rfl mnil), h_b1, h_b2, h_b3⟩, by (dsimp only; omega), ⟨⟨rfl, rfl, rfl, trivial⟩, fun _ h => Inv.sub (Inv.num h 114 102 rfl) [107, 102, 103, 104, 105, 106, 0]⟩⟩
 refine VD.y rfl rfl (.inl rfl) (.ixa (i := 1) (o := 2) rfl rfl tar69 hi13 rfl rfl) ?_
 refine VD.y rfl rfl (.inl rfl) (.ld1 107 rfl tk25 rfl (cellsAt_one rfl rfl)) (VD.y rfl rfl (.inl rfl) (.ldA 112 rfl tk103 rfl (cellsAt_one rfl rfl)) (VD.y rfl rfl (.inl rfl) (.nilp rfl) (VD.y rfl rfl (.inl rfl) (.fa rfl tst99 rfl) ?_)))
 refine VD.callN 115 rfl rfl (.inl rfl) fnOk85 rfl (fun _ h => h.sub [112, 107, 102, 103, 104, 105, 106, 0]) (fun W hW => rWith_ok W (OwnL.rd h_b1 (hW.at (i := 103) rfl) (mle_nil _)) (Rd.mono hre10 (hW.at (i := 106) rfl)) (by exact fin0_rKeep_ok) (by exact fin1_rKeep_ok)) (fun v15 m15 hv15 => ?_)
 obtain ⟨s15_0, rfl, f15_0⟩ := hv15
 obtain ⟨A15_0, c15_0, eq15_0, l15_0, k15_0⟩ := f15_0.slice
 subst eq15_0
 simp only [maxLen] at k15_0
 refine VD.nil rfl ?_ rfl
 refine VO.y rfl (.ixa (i := 1) (o := 2) rfl rfl tar69 hi13 rfl rfl) ?_
 refine VO.store (k := 1) 107 rfl rfl (.inr ⟨tk25, rfl⟩) rfl rfl rfl rfl rfl ?_
 refine VO.k5 0 1 4 5 17 (outBN (outN ?_))
 refine VC.reg ?_
 refine VO.mv ?_
 refine VO.y rfl (.add (c := ((k + 1 : Nat) : Int)) rfl rfl (by omega) ⟨by exact fin2_rKeep_ok, by exact fin2_rKeep_ok⟩) ?_
 refine VO.as (VO.k5 0 1 4 5 17 ?_)
 exact outN ⟨⟨k + 1, b0, b0_A, b0_c, b0_m, doneR b1 x10, A15_0, c15_0, m15, b2, b2_A, b2_c, b2_m, b3, b3_A, b3_c, b3_m⟩, ⟨by omega, by first | (have h_ := play_next hb (get_step ‹d0.2.2.1[k]? = some _›); rw [stepQ, ← doneR_is, setQ0 (stepF ‹_ = (0 : Int)›), getF0 (stepF ‹_ = (0 : Int)›)] at h_; exact h_) | (have h_ := play_next hb (get_step ‹d0.2.2.1[k]? = some _›); rw [stepQ, ← doneR_is, setQ1 (stepF ‹_ = (1 : Int)›), getF1 (stepF ‹_ = (1 : Int)›)] at h_; exact h_) | (have h_ := play_next hb (get_step ‹d0.2.2.1[k]? = some _›); rw [stepQ, ← doneR_is, setQ2 (stepF ‹_ = (2 : Int)›), getF2 (stepF ‹_ = (2 : Int)›)] at h_; exact h_) | (have h_ := play_next hb (get_step ‹d0.2.2.1[k]? = some _›); rw [stepQ, ← doneR_is, setQ3 (stepF ‹_ = (3 : Int)›), getF3 (stepF ‹_ = (3 : Int)›)] at h_; exact h_), h_b0, (Ow.ownl f15_0 rfl mnil), h_b2, h_b3⟩, by (dsimp only; omega), ⟨⟨rfl, rfl, rfl, trivial⟩, fun _ h => Inv.sub (Inv.num h 115 103 rfl) [107, 102, 103, 104, 105, 106, 0]⟩⟩
 refine VD.y rfl rfl (.inl rfl) (.ixa (i := 2) (o := 3) rfl rfl tar69 hi13 rfl rfl) ?_
 refine VD.y rfl rfl (.inl rfl) (.ld1 107 rfl tk25 rfl (cellsAt_one rfl rfl)) (VD.y rfl rfl (.inl rfl) (.ldA 112 rfl tk103 rfl (cellsAt_one rfl rfl)) (VD.y rfl rfl (.inl rfl) (.nilp rfl) (VD.y rfl rfl (.inl rfl) (.fa rfl tst99 rfl) ?_)))
 refine VD.callN 116 rfl rfl (.inl rfl) fnOk85 rfl (fun _ h => h.sub [112, 107, 102, 103, 104, 105, 106, 0]) (fun W hW => rWith_ok W (OwnL.rd h_b2 (hW.at (i := 104) rfl) (mle_nil _)) (Rd.mono hre10 (hW.at (i := 106) rfl)) (by exact fin0_rKeep_ok) (by exact fin1_rKeep_ok)) (fun v16 m16 hv16 => ?_)
 obtain ⟨s16_0, rfl, f16_0⟩ := hv16
 obtain ⟨A16_0, c16_0, eq16_0, l16_0, k16_0⟩ := f16_0.slice
 subst eq16_0
 simp only [maxLen] at k16_0
 refine VD.nil rfl ?_ rfl
 refine VO.y rfl (.ixa (i := 2) (o := 3) rfl rfl tar69 hi13 rfl rfl) ?_
 refine VO.store (k := 1) 107 rfl rfl (.inr ⟨tk25, rfl⟩) rfl rfl rfl rfl rfl ?_
 refine VO.k5 0 1 4 5 17 (outBN (outN ?_))
 refine VC.reg ?_
 refine VO.mv ?_
 refine VO.y rfl (.add (c := ((k + 1 : Nat) : Int)) rfl rfl (by omega) ⟨by exact fin2_rKeep_ok, by exact fin2_rKeep_ok⟩) ?_
 refine VO.as (VO.k5 0 1 4 5 17 ?_)
 exact outN ⟨⟨k + 1, b0, b0_A, b0_c, b0_m, b1, b1_A, b1_c, b1_m, doneR b2 x10, A16_0, c16_0, m16, b3, b3_A, b3_c, b3_m⟩, ⟨by omega, by first | (have h_ := play_next hb (get_step ‹d0.2.2.1[k]? = some _›); rw [stepQ, ← doneR_is, setQ0 (stepF ‹_ = (0 : Int)›), getF0 (stepF ‹_ = (0 : Int)›)] at h_; exact h_) | (have h_ := play_next hb (get_step ‹d0.2.2.1[k]? = some _›); rw [stepQ, ← doneR_is, setQ1 (stepF ‹_ = (1 : Int)›), getF1 (stepF ‹_ = (1 : Int)›)] at h_; exact h_) | (have h_ := play_next hb (get_step ‹d0.2.2.1[k]? = some _›); rw [stepQ, ← doneR_is, setQ2 (stepF ‹_ = (2 : Int)›), getF2 (stepF ‹_ = (2 : Int)›)] at h_; exact h_) | (have h_ := play_next hb (get_step ‹d0.2.2.1[k]? = some _›); rw [stepQ, ← doneR_is, setQ3 (stepF ‹_ = (3 : Int)›), getF3 (stepF ‹_ = (3 : Int)›)] at h_; exact h_), h_b0, h_b1, (Ow.ownl f16_0 rfl mnil), h_b3⟩, by (dsimp only; omega), ⟨⟨rfl, rfl, rfl, trivial⟩, fun _ h => Inv.sub (Inv.num h 116 104 rfl) [107, 102, 103, 104, 105, 106, 0]⟩⟩
 refine VD.y rfl rfl (.inl rfl) (.ixa (i := 3) (o := 4) rfl rfl tar69 hi13 rfl rfl) ?_
 refine VD.y rfl rfl (.inl rfl) (.ld1 107 rfl tk25 rfl (cellsAt_one rfl rfl)) (VD.y rfl rfl (.inl rfl) (.ldA 112 rfl tk103 rfl (cellsAt_one rfl rfl)) (VD.y rfl rfl (.inl rfl) (.nilp rfl) (VD.y rfl rfl (.inl rfl) (.fa rfl tst99 rfl) ?_)))
 refine VD.callN 117 rfl rfl (.inl rfl) fnOk85 rfl (fun _ h => h.sub [112, 107, 102, 103, 104, 105, 106, 0]) (fun W hW => rWith_ok W (OwnL.rd h_b3 (hW.at (i := 105) rfl) (mle_nil _)) (Rd.mono hre10 (hW.at (i := 106) rfl)) (by exact fin0_rKeep_ok) (by exact fin1_rKeep_ok)) (fun v17 m17 hv17 => ?_)
 obtain ⟨s17_0, rfl, f17_0⟩ := hv17
 obtain ⟨A17_0, c17_0, eq17_0, l17_0, k17_0⟩ := f17_0.slice
 subst eq17_0
 simp only [maxLen] at k17_0
 refine VD.nil rfl ?_ rfl
 refine VO.y rfl (.ixa (i := 3) (o := 4) rfl rfl tar69 hi13 rfl rfl) ?_
 refine VO.store (k := 1) 107 rfl rfl (.inr ⟨tk25, rfl⟩) rfl rfl rfl rfl rfl ?_
 refine VO.k5 0 1 4 5 17 (outBN (outN ?_))
 refine VC.reg ?_
 refine VO.mv ?_
 refine VO.y rfl (.add (c := ((k + 1 : Nat) : Int)) rfl rfl (by omega) ⟨by exact fin2_rKeep_ok, by exact fin2_rKeep_ok⟩) ?_
 refine VO.as (VO.k5 0 1 4 5 17 ?_)
 exact outN ⟨⟨k + 1, b0, b0_A, b0_c, b0_m, b1, b1_A, b1_c, b1_m, b2, b2_A, b2_c, b2_m, doneR b3 x10, A17_0, c17_0, m17⟩, ⟨by omega, by first | (have h_ := play_next hb (get_step ‹d0.2.2.1[k]? = some _›); rw [stepQ, ← doneR_is, setQ0 (stepF ‹_ = (0 : Int)›), getF0 (stepF ‹_ = (0 : Int)›)] at h_; exact h_) | (have h_ := play_next hb (get_step ‹d0.2.2.1[k]? = some _›); rw [stepQ, ← doneR_is, setQ1 (stepF ‹_ = (1 : Int)›), getF1 (stepF ‹_ = (1 : Int)›)] at h_; exact h_) | (have h_ := play_next hb (get_step ‹d0.2.2.1[k]? = some _›); rw [stepQ, ← doneR_is, setQ2 (stepF ‹_ = (2 : Int)›), getF2 (stepF ‹_ = (2 : Int)›)] at h_; exact h_) | (have h_ := play_next hb (get_step ‹d0.2.2.1[k]? = some _›); rw [stepQ, ← doneR_is, setQ3 (stepF ‹_ = (3 : Int)›), getF3 (stepF ‹_ = (3 : Int)›)] at h_; exact h_), h_b0, h_b1, h_b2, (Ow.ownl f17_0 rfl mnil)⟩, by (dsimp only; omega), ⟨⟨rfl, rfl, rfl, trivial⟩, fun _ h => Inv.sub (Inv.num h 117 105 rfl) [107, 102, 103, 104, 105, 106, 0]⟩⟩
 · refine VC.exit (outE (outE (outBB ?_)))
   refine ⟨_, _, res_run (rs := []) rfl .nil, fun W_ hI => out_of (l := [mone g0 (.cells #[.bool d0.1, .slice b0_A (b0.length) (b0_c), .slice b1_A (b1.length) (b1_c), .slice b2_A (b2.length) (b2_c), .slice b3_A (b3.length) (b3_c), .slice q1_A5 (d0.2.2.1.length) (q1_c5), .bool d0.2.2.2.1, .bool d0.2.2.2.2.1, .int .i64 (d0.2.2.2.2.2.1), .int .i64 (d0.2.2.2.2.2.2)] q1_E (0, 0)), b0_m, b1_m, b2_m, b3_m, q1_n5]) hI [107, 102, 103, 104, 105, 106] rfl rfl (mle_refl _) (fun hS_ => ?_)⟩
   dsimp only [packV]
   have hm0_ : (toR (keepR (fromR d0) d1.toNat) d0.2.2.2.2.2.1 : Dref05Disk) = (d0.1, (b0, b1, b2, b3), d0.2.2) := by first | rfl | (exact keep_is hb (by omega))
   refine ⟨?_, ?_⟩
   rotate_left
   · rw [hm0_]; exact (mkP_ref05Disk d0.1 b0 b1 b2 b3 d0.2.2.1 d0.2.2.2.1 d0.2.2.2.2.1 d0.2.2.2.2.2.1 d0.2.2.2.2.2.2 hS_ (OwnL.ow h_b0 rfl) (OwnL.ow h_b1 rfl) (OwnL.ow h_b2 rfl) (OwnL.ow h_b3 rfl) q1_5 (by simp only [inK]; (exact fin2_rKeep_ok)) (by simp only [inK]; (exact fin2_rKeep_ok)))
   all_goals (first | rfl | (simp [*]; done))
 · refine VO.gN (VO.gN (VO.gN (VO.gN (VO.gN (VO.gN (VO.gN (VO.y rfl (.pF rfl rfl) (VO.k4 0 1 4 17 (VC.condF rfl (VC.exit (outE ?_)))))))))))
   refine outE (outBB ?_)
   refine ⟨_, _, res_run (rs := []) rfl .nil, fun W_ hI => out_of (l := [mone g0 (.cells #[.bool d0.1, .slice b0_A (b0.length) (b0_c), .slice b1_A (b1.length) (b1_c), .slice b2_A (b2.length) (b2_c), .slice b3_A (b3.length) (b3_c), .slice q1_A5 (d0.2.2.1.length) (q1_c5), .bool d0.2.2.2.1, .bool d0.2.2.2.2.1, .int .i64 (d0.2.2.2.2.2.1), .int .i64 (d0.2.2.2.2.2.2)] q1_E (0, 0)), b0_m, b1_m, b2_m, b3_m, q1_n5]) hI [107, 102, 103, 104, 105, 106] rfl rfl (mle_refl _) (fun hS_ => ?_)⟩
   dsimp only [packV]
   have hm0_ : (toR (keepR (fromR d0) d1.toNat) d0.2.2.2.2.2.1 : Dref05Disk) = (d0.1, (b0, b1, b2, b3), d0.2.2) := by first | rfl | (exact keep_is hb (by omega))
   refine ⟨?_, ?_⟩
   rotate_left
   · rw [hm0_]; exact (mkP_ref05Disk d0.1 b0 b1 b2 b3 d0.2.2.1 d0.2.2.2.1 d0.2.2.2.2.1 d0.2.2.2.2.2.1 d0.2.2.2.2.2.2 hS_ (OwnL.ow h_b0 rfl) (OwnL.ow h_b1 rfl) (OwnL.ow h_b2 rfl) (OwnL.ow h_b3 rfl) q1_5 (by simp only [inK]; (exact fin2_rKeep_ok)) (by simp only [inK]; (exact fin2_rKeep_ok)))
   all_goals (first | rfl | (simp [*]; done))
end
section
set_option linter.unusedVariables false
set_option linter.unusedSimpArgs false
set_option maxRecDepth 4000
theorem fnOk77 : fnOk Try.prog 77 = true := by kernel_rfl
theorem fnOk78 : fnOk Try.prog 78 = true := by kernel_rfl
theorem fin0_rWrite_ok {P : Prop} (h : P := by first | rfl | (rw [write_bad1 (by assumption)] <;> rfl) | (rw [write_bad2 (by assumption) (fun q_ : inF d1 => by obtain ⟨q1_, q2_⟩ := q_; omega)] <;> rfl) | (rw [write_go (by assumption) (Decidable.not_not.2 (show inF d1 from ⟨by omega, by omega⟩)), write_off hp hn (by simp only [List.length_drop]; omega) (by rw [← hfr]; exact burn_not (by assumption))] <;> rfl) | (rw [write_go (by assumption) (Decidable.not_not.2 (show inF d1 from ⟨by omega, by omega⟩)), write_end hp (by simp only [List.length_drop]; omega)] <;> rfl) | (rw [write_go (by assumption) (Decidable.not_not.2 (show inF d1 from ⟨by omega, by omega⟩)), write_off hp hn (by simp only [List.length_drop]; omega) (by rw [← hfr]; exact burn_not (by assumption)), if_neg (by assumption)]; rfl) | (rw [write_go (by assumption) (Decidable.not_not.2 (show inF d1 from ⟨by omega, by omega⟩)), write_off hp hn (by simp only [List.length_drop]; omega) (by rw [← hfr]; exact burn_not (by assumption))]; exact congrArg (Value.int _) (if_neg (burn_not (by assumption))))) : P := h
theorem fin1_rWrite_ok {P : Prop} (h : P := by first | rfl | (rw [write_bad1 (by assumption), to_from]; done) | (rw [write_bad2 (by assumption) (fun q_ : inF d1 => by obtain ⟨q1_, q2_⟩ := q_; omega), to_from]; done) | (rw [write_go (by assumption) (Decidable.not_not.2 (show inF d1 from ⟨by omega, by omega⟩)), write_off hp hn (by simp only [List.length_drop]; omega) (by rw [← hfr]; exact burn_not (by assumption))]; exact rwrite_off hr hfr) | (rw [write_go (by assumption) (Decidable.not_not.2 (show inF d1 from ⟨by omega, by omega⟩)), write_end hp (by simp only [List.length_drop]; omega)]; exact hr.symm)) : P := h
theorem rWrite_ok (W : World) {m0 : Mem} (hm : mle (m0) (wm W)) {g0 : Nat} {d0 : Dref05Disk} (h0 : Ow (.ptr Tref05Disk) m0 [.pointer (some ⟨g0, 0, none⟩)] (g0, d0)) (d1 : Int) (h1 : inK .i64 d1) {v2 : Value} {d2 : List UInt8} (h2 : Rd (.sl .byte) (mout (wm W) (m0)) [v2] d2) (e0 : okR d0) (e1 : wD (fromR d0) + 3 * d2.length ≤ 1000000000000) : CallR Try.prog 36 [.pointer (some ⟨g0, 0, none⟩), .int .i64 d1, v2] W (m0) (fun v m' => v = .int .i64 ((dWrite (fromR d0) d1 d2).2) ∧ Ow (.ptr Tref05Disk) m' [.pointer (some ⟨g0, 0, none⟩)] (g0, toR (dWrite (fromR d0) d1 d2).1 d0.2.2.2.2.2.1)) := by
 have h1' := h1; simp only [inK] at h1'
 obtain ⟨A2, c2, rfl, l2, k2⟩ := h2.slice
 simp only [maxLen] at k2
 refine CallR.ofB (n := 53) hm Try.func36 rfl rfl rfl ?_
 refine VC.rs (VO.as (VO.k4 0 1 2 6 (VC.rs (VO.mv ?_))))
 refine VO.call 1 rfl fnOk77 rfl rfl (fun W hW => rAsked_ok W (hW.at (i := 1) rfl) h0) (fun v1 m1 hv1 => ?_)
 obtain ⟨rfl, w1_0⟩ := hv1
 refine VO.as (VO.k5 0 1 2 6 7 (VC.seq (VC.rs (VO.mv (VO.y rfl (.neq rfl rfl) ?_)))))
 refine VO.kp [1, 0] [(1, m1), (0, mout (wm W) (m0))] ?_
 refine VO.k6 0 1 2 6 7 13 ?_
 refine VC.cond rfl (fun hc2 => ?_) (fun hc2 => ?_)
 · refine VC.rs (VO.mv (VO.as (VO.k6 0 1 2 6 7 13 (VC.ret (outR ?_)))))
   refine ⟨_, _, res_run (rs := [.tmp 6]) rfl (.tmp rfl .nil), fun W_ hI => out_of (l := [m1]) hI [1] rfl rfl (mle_refl _) (fun hS_ => ?_)⟩
   dsimp only [packV]
   have hm0_ : (toR (dWrite (fromR d0) d1 d2).1 d0.2.2.2.2.2.1 : Dref05Disk) = d0 := by first | rfl | (exact fin1_rWrite_ok)
   refine ⟨?_, ?_⟩
   rotate_left
   · rw [hm0_]; exact (Ow.up w1_0 (hS_.1 _ (.head _)))
   all_goals (first | rfl | (exact fin0_rWrite_ok))
 refine VC.skip (outN (VC.seq (VC.rs (VO.mv (VO.y rfl (.lss rfl rfl) (VO.mv ?_))))))
 refine VO.dec (t := 17) rfl (fun hc3 => ?_) (fun hc3 => ?_)
 · refine VO.gN (VO.gN (VO.y rfl (.pT rfl rfl) (VO.k7 0 1 2 6 7 13 20 (VC.condT rfl (VC.rs (VO.as (VO.k7 0 1 2 6 7 13 20 (VC.ret (outR ?_)))))))))
   refine ⟨_, _, res_run (rs := [.tmp 6]) rfl (.tmp rfl .nil), fun W_ hI => out_of (l := [m1]) hI [1] rfl rfl (mle_refl _) (fun hS_ => ?_)⟩
   dsimp only [packV]
   have hm0_ : (toR (dWrite (fromR d0) d1 d2).1 d0.2.2.2.2.2.1 : Dref05Disk) = d0 := by first | rfl | (exact fin1_rWrite_ok)
   refine ⟨?_, ?_⟩
   rotate_left
   · rw [hm0_]; exact (Ow.up w1_0 (hS_.1 _ (.head _)))
   all_goals (first | rfl | (exact fin0_rWrite_ok))
 refine VO.gy rfl ⟨_, rfl, rfl⟩ (.mv rfl) (VO.gy rfl ⟨_, rfl, rfl⟩ (.geq rfl rfl) (VO.y rfl (.pF rfl rfl) (VO.k7 0 1 2 6 7 13 20 ?_)))
 refine VC.cond rfl (fun hc4 => ?_) (fun hc4 => ?_)
 · refine VC.rs (VO.as (VO.k7 0 1 2 6 7 13 20 (VC.ret (outR ?_))))
   refine ⟨_, _, res_run (rs := [.tmp 6]) rfl (.tmp rfl .nil), fun W_ hI => out_of (l := [m1]) hI [1] rfl rfl (mle_refl _) (fun hS_ => ?_)⟩
   dsimp only [packV]
   have hm0_ : (toR (dWrite (fromR d0) d1 d2).1 d0.2.2.2.2.2.1 : Dref05Disk) = d0 := by first | rfl | (exact fin1_rWrite_ok)
   refine ⟨?_, ?_⟩
   rotate_left
   · rw [hm0_]; exact (Ow.up w1_0 (hS_.1 _ (.head _)))
   all_goals (first | rfl | (exact fin0_rWrite_ok))
 refine VC.skip (outN (VC.seq (VC.rs (VO.as (VO.k8 0 1 2 6 7 8 13 20 (VC.block ?_))))))
 refine VC.loop (G := Dref05Disk × Mem × Nat × Nat × DDisk) (fun g => [(8, .int .i64 ((((g.2.2.1) : Nat) : Int))), (0, .pointer (some ⟨g0, 0, none⟩)), (1, .int .i64 (d1)), (2, .slice A2 (d2.length) (c2)), (13, .bool (decide (¬ (wrongD (fromR d0)) = 0))), (20, .bool (decide (4 ≤ d1)))]) (fun g => [(1, (g.2.1)), (0, mout (wm W) (m0))]) (fun g => ((g.1) = toR (g.2.2.2.2) d0.2.2.2.2.2.1) ∧ (okD (g.2.2.2.2) ∧ nf (g.2.2.2.2)) ∧ (writeGo d2.length (fromR d0) d1 d2 = writeGo (g.2.2.2.1) (g.2.2.2.2) d1 (d2.drop (g.2.2.1))) ∧ ((d2.drop (g.2.2.1)).length ≤ (g.2.2.2.1)) ∧ (wD (g.2.2.2.2) + 3 * (d2.drop (g.2.2.1)).length ≤ 1000000000000) ∧ ((g.2.2.1) ≤ d2.length + 64) ∧ (Ow (.ptr Tref05Disk) (g.2.1) [.pointer (some ⟨g0, 0, none⟩)] (g0, (g.1)))) (fun g => d2.length - (g.2.2.1)) (d0, m1, 0, d2.length, fromR d0) (⟨by exact (to_from d0).symm, by exact ⟨e0, nf_from d0⟩, by rfl, by simp, by simpa using e1, by (dsimp only; omega), w1_0⟩) ⟨⟨rfl, rfl, rfl, rfl, rfl, rfl, trivial⟩, fun _ h => h.sub [1, 0]⟩ ?_
 rintro ⟨r, r_m, at_, n, D⟩ ⟨hr, hD, hp, hn, hw, hat, h_r⟩
 replace hr : r = toR D d0.2.2.2.2.2.1 := hr
 replace hD : okD D ∧ nf D := hD
 replace hp : writeGo d2.length (fromR d0) d1 d2 = writeGo n D d1 (d2.drop at_) := hp
 replace hn : (d2.drop at_).length ≤ n := hn
 replace hw : wD D + 3 * (d2.drop at_).length ≤ 1000000000000 := hw
 replace hat : at_ ≤ d2.length + 64 := hat
 replace h_r : Ow (.ptr Tref05Disk) r_m [.pointer (some ⟨g0, 0, none⟩)] (g0, r) := h_r
 show VC _ _ _ _ _ [(8, .int .i64 (((at_ : Nat) : Int))), (0, .pointer (some ⟨g0, 0, none⟩)), (1, .int .i64 (d1)), (2, .slice A2 (d2.length) (c2)), (13, .bool (decide (¬ (wrongD (fromR d0)) = 0))), (20, .bool (decide (4 ≤ d1)))] [(1, r_m), (0, mout (wm W) (m0))]
 have hfr : fromR r = D := by rw [hr]; exact from_to hD.1 hD.2
 have hok : okR r := by unfold okR; rw [hfr]; exact hD.1
 have hwr : wD (fromR r) = wD D := by rw [hfr]
 refine VC.seq (VC.rs (VO.mv (VO.mv ?_)))
 refine VO.y rfl (.lenS rfl tsl25) ?_
 refine VO.y rfl (.lss rfl rfl) ?_
 refine VO.kp [1, 0] [(1, r_m), (0, mout (wm W) (m0))] ?_
 refine VO.k7 0 1 2 8 13 20 24 ?_
 refine VC.cond rfl (fun hc5 => ?_) (fun hc5 => ?_)
 refine VC.skip (outN (VC.seq (VC.block (VC.rs (VO.mv ?_)))))
 refine VO.call 1 rfl fnOk78 rfl rfl (fun W hW => rStep_ok W (hW.at (i := 1) rfl) h_r (by assumption) bd) (fun v6 m6 hv6 => ?_)
 obtain ⟨rfl, w6_0⟩ := hv6
 have hfa7 := (ro_burn (show okR r by assumption))
 have hfa8 := (rw_burn (show okR r by assumption))
 have hfa9 := (wait_len (show okD (fromR r) from (show okR r by assumption)))
 refine VO.as (VO.k8 0 1 2 7 8 13 20 24 (VC.seq (VC.rs (VO.mv (VO.y rfl (.neq rfl rfl) (VO.k9 0 1 2 7 8 13 20 24 30 ?_))))))
 refine VC.cond rfl (fun hc10 => ?_) (fun hc10 => ?_)
 · refine VC.rs (VO.mv (VO.as ?_))
   refine VO.kp [1, 0] [(1, m6), (0, mout (wm W) (m0))] ?_
   refine VO.k10 0 1 2 6 7 8 13 20 24 30 (VC.ret (outR (outBR (outR (outR (outBR (outR ?_)))))))
   refine ⟨_, _, res_run (rs := [.tmp 6]) rfl (.tmp rfl .nil), fun W_ hI => out_of (l := [m6]) hI [1] rfl rfl (mle_refl _) (fun hS_ => ?_)⟩
   dsimp only [packV]
   have hm0_ : (toR (dWrite (fromR d0) d1 d2).1 d0.2.2.2.2.2.1 : Dref05Disk) = toR (burnD (fromR r)).1 r.2.2.2.2.2.1 := by first | rfl | (exact fin1_rWrite_ok)
   refine ⟨?_, ?_⟩
   rotate_left
   · rw [hm0_]; exact (Ow.up w6_0 (hS_.1 _ (.head _)))
   all_goals (first | rfl | (exact fin0_rWrite_ok))
 refine VC.skip (outN (VC.rs (VO.as ?_)))
 refine VO.kp [1, 0] [(1, m6), (0, mout (wm W) (m0))] ?_
 refine VO.k10 0 1 2 7 8 9 13 20 24 30 ?_
 obtain ⟨q11_E, q11_A1, q11_c1, q11_A2, q11_c2, q11_A3, q11_c3, q11_A4, q11_c4, q11_A5, q11_c5, q11_n1, q11_n2, q11_n3, q11_n4, q11_n5, _, q11_S, q11_1, q11_2, q11_3, q11_4, q11_5, q11_8, q11_9⟩ := openP_ref05Disk (x0 := (toR (burnD (fromR r)).1 r.2.2.2.2.2.1).1) (x1 := ((toR (burnD (fromR r)).1 r.2.2.2.2.2.1).2.1).1) (x2 := ((toR (burnD (fromR r)).1 r.2.2.2.2.2.1).2.1).2.1) (x3 := ((toR (burnD (fromR r)).1 r.2.2.2.2.2.1).2.1).2.2.1) (x4 := ((toR (burnD (fromR r)).1 r.2.2.2.2.2.1).2.1).2.2.2) (x5 := (toR (burnD (fromR r)).1 r.2.2.2.2.2.1).2.2.1) (x6 := (toR (burnD (fromR r)).1 r.2.2.2.2.2.1).2.2.2.1) (x7 := (toR (burnD (fromR r)).1 r.2.2.2.2.2.1).2.2.2.2.1) (x8 := (toR (burnD (fromR r)).1 r.2.2.2.2.2.1).2.2.2.2.2.1) (x9 := (toR (burnD (fromR r)).1 r.2.2.2.2.2.1).2.2.2.2.2.2) w6_0
 have q11_r1 := q11_1.rm
 have q11_r2 := q11_2.rm
 have q11_r3 := q11_3.rm
 have q11_r4 := q11_4.rm
 have q11_r5 := q11_5.rm
 simp only [inK] at q11_8 q11_9
 refine VC.inv _ (fun _ h => h.parts (i := 1) rfl q11_S [117, 112, 113, 114, 115, 116]) ?_
 refine VC.regD _ 19 [(0, true), (1, true), (2, true), (3, true), (4, true), (5, true), (6, true), (7, true), (8, true), (9, true), (10, true), (11, true), (12, true), (13, true), (14, true), (15, false), (16, true), (17, false), (18, false)] follows (by kernel_rfl) (fun _ h => h.sub [117, 112, 113, 114, 115, 0]) ?_
 refine VD.y rfl rfl (.inl rfl) (.mv rfl) (VD.y rfl rfl (.inl rfl) (.mv rfl) (VD.y rfl rfl (.inl rfl) (.nilp rfl) (VD.y rfl rfl (.inl rfl) (.fa rfl tst99 rfl) (VD.y rfl rfl (.inl rfl) (.ld1 117 rfl tk97 rfl (cellsAt_one rfl rfl)) (VD.y rfl rfl (.inl rfl) (.mv rfl) (VD.y rfl rfl (.inl rfl) (.mv rfl) (VD.y rfl rfl (.inl rfl) (.mv rfl) (VD.y rfl rfl (.inl rfl) (.mv rfl) (VD.y rfl rfl (.inl rfl) (.mv rfl) ?_)))))))))
 refine VD.y rfl rfl (.inl rfl) (.lenS rfl tsl25) ?_
 refine VD.y rfl rfl (.inl rfl) (.mv rfl) ?_
 refine VD.y rfl rfl (.inl rfl) (.add (c := ((at_ + 64 : Nat) : Int)) rfl rfl (by omega) ⟨bd, bd⟩) ?_
 refine VD.y rfl rfl (.inl rfl) (.minM rfl rfl) ?_
 obtain ⟨A18, hA18, hs18⟩ := h2.sub' 1 at_ ((min ((d2.length : Nat) : Int) ((at_ + 64 : Nat) : Int)).toNat) rfl bd bd
 refine VD.y rfl rfl (.inl rfl) (.slI at_ ((min ((d2.length : Nat) : Int) ((at_ + 64 : Nat) : Int)).toNat) A18 rfl rfl rfl tsl25 rfl bd hA18 bd bd) ?_
 refine VD.inv _ (fun _ h => h.nilc 120) ?_
 obtain ⟨mo19, cs19, hM19, hA19, hC19⟩ := (OwnL.nil .byte mnil mnil)
 obtain ⟨all19, hS19, hR19⟩ := Rd.srcI (P := Try.prog) (hs18) Try.underlying25
 refine VD.app 120 rfl rfl rfl rfl tsl25 tz5 rfl rfl hM19 hA19 (hS19 _ 0 rfl) hR19.nice bdm bd (by decide) (fun _ _ h => h.sub [117, 112, 113, 114, 115, 0]) (fun v19 m19 hN19 => ?_)
 have ho19 : OwnL .byte m19 mnil v19 ((d2.take ((min ((d2.length : Nat) : Int) ((at_ + 64 : Nat) : Int)).toNat)).drop at_) := OwnL.more hC19 hN19 (All2c.mono hR19 fun _ _ h => Rd.flat rfl h _)
 obtain ⟨A19, c19, rfl, l19, k19⟩ := ho19.slice
 simp only [maxLen] at k19
 refine VD.y rfl rfl (.inl rfl) (.bst (cs := [.int .i64 (d1), .bool false, .int .i64 (0), .slice A19 (((d2.take ((min ((d2.length : Nat) : Int) ((at_ + 64 : Nat) : Int)).toNat)).drop at_).length) (c19)]) rfl tst103 tz103 rfl) ?_
 refine VD.bsl (cs := [Value.int .i64 (d1), Value.bool false, Value.int .i64 (0), Value.slice A19 (((d2.take ((min ((d2.length : Nat) : Int) ((at_ + 64 : Nat) : Int)).toNat)).drop at_).length) (c19)]) 122 rfl rfl rfl tsl97 tz103 rfl rfl (fun _ h => h.sub [117, 112, 113, 114, 115, 0]) (fun g21 => ?_)
 refine VD.appO (e := Tref05Raw) 116 120 122 rfl rfl rfl rfl tsl97 tz103 rfl rfl rfl rfl q11_5 (mkO_ref05Raw d1 false 0 ((d2.take ((min ((d2.length : Nat) : Int) ((at_ + 64 : Nat) : Int)).toNat)).drop at_) (Seps.one (mle_refl _)) bdk bdk (OwnL.ow ho19 rfl)) Try.underlying97 (cellsAt_one rfl rfl) bdm bd (by decide) (fun _ _ h => h.sub [117, 112, 113, 114, 115, 0]) (fun v23 m23 ho23 => ?_)
 obtain ⟨A23, c23, rfl, l23, k23⟩ := ho23.slice
 simp only [maxLen] at k23
 refine VD.nil rfl ?_ rfl
 refine VO.y rfl (.nilp rfl) (VO.y rfl (.fa rfl tst99 rfl) ?_)
 refine VO.store (k := 1) 117 rfl rfl (.inr ⟨tk97, rfl⟩) rfl rfl rfl rfl rfl ?_
 refine VO.clsP 124 [117, 112, 113, 114, 115, 116] rfl (fun hg24 => (mkP_ref05Disk ((toR (burnD (fromR r)).1 r.2.2.2.2.2.1).1) (((toR (burnD (fromR r)).1 r.2.2.2.2.2.1).2.1).1) (((toR (burnD (fromR r)).1 r.2.2.2.2.2.1).2.1).2.1) (((toR (burnD (fromR r)).1 r.2.2.2.2.2.1).2.1).2.2.1) (((toR (burnD (fromR r)).1 r.2.2.2.2.2.1).2.1).2.2.2) (((toR (burnD (fromR r)).1 r.2.2.2.2.2.1).2.2.1) ++ [((d1, false, 0, (d2.take ((min ((d2.length : Nat) : Int) ((at_ + 64 : Nat) : Int)).toNat)).drop at_) : Dref05Raw)]) ((toR (burnD (fromR r)).1 r.2.2.2.2.2.1).2.2.2.1) ((toR (burnD (fromR r)).1 r.2.2.2.2.2.1).2.2.2.2.1) ((toR (burnD (fromR r)).1 r.2.2.2.2.2.1).2.2.2.2.2.1) ((toR (burnD (fromR r)).1 r.2.2.2.2.2.1).2.2.2.2.2.2) hg24 (OwnL.ow (Ow.ownl q11_1 rfl mnil) rfl) (OwnL.ow (Ow.ownl q11_2 rfl mnil) rfl) (OwnL.ow (Ow.ownl q11_3 rfl mnil) rfl) (OwnL.ow (Ow.ownl q11_4 rfl mnil) rfl) ho23 bdk bdk)) (fun mc24 ho24 => ?_)
 refine VO.k10 0 1 2 7 8 9 13 20 24 30 (outBN (outN ?_))
 refine VC.reg ?_
 refine VO.mv ?_
 refine VO.y rfl (.add (c := ((at_ + 64 : Nat) : Int)) rfl rfl (by omega) ⟨bd, bd⟩) ?_
 refine VO.as (VO.k10 0 1 2 7 8 9 13 20 24 30 ?_)
 exact outN ⟨⟨((toR (burnD (fromR r)).1 r.2.2.2.2.2.1).1, ((toR (burnD (fromR r)).1 r.2.2.2.2.2.1).2.1), ((toR (burnD (fromR r)).1 r.2.2.2.2.2.1).2.2.1) ++ [((d1, false, 0, (d2.take ((min ((d2.length : Nat) : Int) ((at_ + 64 : Nat) : Int)).toNat)).drop at_) : Dref05Raw)], (toR (burnD (fromR r)).1 r.2.2.2.2.2.1).2.2.2), mc24, at_ + 64, n - 1, addP (burnD D).1 (0, d1, (d2.drop at_).take 64, 0)⟩, ⟨by exact rwrite_next hr hfr (piece_eq (by omega)), by exact rwrite_ok hD.1 hD.2 (show inF d1 from ⟨by omega, by omega⟩) (by simp only [List.length_drop]; omega), by exact rwrite_step hp hn (by simp only [List.length_drop]; omega) (by rw [← hfr]; exact burn_yes (by assumption)), by (simp only [List.length_drop] at *; omega), by exact Nat.le_trans (rwrite_w hD.1 (by simp only [List.length_drop]; omega)) hw, by (dsimp only; omega), ho24⟩, by (dsimp only; omega), ⟨⟨rfl, rfl, rfl, rfl, rfl, rfl, trivial⟩, fun _ h => Inv.sub (Inv.num h 124 1 rfl) [1, 0]⟩⟩
 · refine VC.exit (outE (outE (outBB (outN (VC.rs (VO.as (VO.k8 0 1 2 6 8 13 20 24 (VC.ret ?_))))))))
   refine ⟨_, _, res_run (rs := [.tmp 6]) rfl (.tmp rfl .nil), fun W_ hI => out_of (l := [r_m]) hI [1] rfl rfl (mle_refl _) (fun hS_ => ?_)⟩
   dsimp only [packV]
   have hm0_ : (toR (dWrite (fromR d0) d1 d2).1 d0.2.2.2.2.2.1 : Dref05Disk) = r := by first | rfl | (exact fin1_rWrite_ok)
   refine ⟨?_, ?_⟩
   rotate_left
   · rw [hm0_]; exact (Ow.up h_r (hS_.1 _ (.head _)))
   all_goals (first | rfl | (exact fin0_rWrite_ok))
end
end Go.Proofs.Ytbjkfnnabnacfaa
