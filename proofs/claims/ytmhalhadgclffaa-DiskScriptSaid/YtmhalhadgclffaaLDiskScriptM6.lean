/- Part 6 of the proof of LDiskScript: what it needs of the library, the walks and the plain laws. Conditions: those named in each theorem. -/
import Derived.Test.YtmhalhadgclffaaLDiskScriptM5
namespace Go.Proofs.Ytmhalhadgclffaa
section
set_option linter.unusedVariables false
set_option linter.unusedSimpArgs false
set_option maxRecDepth 4000
theorem fin0_rStart_ok {P : Prop} (h : P := by first | (rw [start_bad1 (by assumption), to_from]; done) | (rw [start_bad2 (by assumption) (.inl (is_on (by assumption))), to_from]; done) | (rw [start_bad2 (by assumption) (.inr (.inl (by assumption))), to_from]; done) | (rw [start_bad2 (by assumption) (.inr (.inr (by assumption))), to_from]; done) | (rw [(rstart_go (r := d0) (k := d1) (t := d2) (by assumption) (by assumption) (by assumption) (by assumption)).1, rtorn_nil (by omega) (by simp only [rkeep_wait] at *; omega)]; exact rstart_tail rfl) | (rw [(rstart_go (r := d0) (k := d1) (t := d2) (by assumption) (by assumption) (by assumption) (by assumption)).1, rtorn_no (by omega) (by have h_ := ‹_[d1.toNat]? = some _›; rw [rkeep_wait] at h_; exact h_) (by assumption)]; exact rstart_tail rfl) | (rw [(rstart_go (r := d0) (k := d1) (t := d2) (by assumption) (by assumption) (by assumption) (by assumption)).1, rtorn_yes (by omega) (by have h_ := ‹_[d1.toNat]? = some _›; rw [rkeep_wait] at h_; exact h_) (by assumption), setQ0 ‹_ = (0 : Int)›, getF0 ‹_ = (0 : Int)›]; exact rstart_tail rfl) | (rw [(rstart_go (r := d0) (k := d1) (t := d2) (by assumption) (by assumption) (by assumption) (by assumption)).1, rtorn_yes (by omega) (by have h_ := ‹_[d1.toNat]? = some _›; rw [rkeep_wait] at h_; exact h_) (by assumption), setQ1 ‹_ = (1 : Int)›, getF1 ‹_ = (1 : Int)›]; exact rstart_tail rfl) | (rw [(rstart_go (r := d0) (k := d1) (t := d2) (by assumption) (by assumption) (by assumption) (by assumption)).1, rtorn_yes (by omega) (by have h_ := ‹_[d1.toNat]? = some _›; rw [rkeep_wait] at h_; exact h_) (by assumption), setQ2 ‹_ = (2 : Int)›, getF2 ‹_ = (2 : Int)›]; exact rstart_tail rfl) | (rw [(rstart_go (r := d0) (k := d1) (t := d2) (by assumption) (by assumption) (by assumption) (by assumption)).1, rtorn_yes (by omega) (by have h_ := ‹_[d1.toNat]? = some _›; rw [rkeep_wait] at h_; exact h_) (by assumption), setQ3 ‹_ = (3 : Int)›, getF3 ‹_ = (3 : Int)›]; exact rstart_tail rfl)) : P := h
theorem fin1_rStart_ok {P : Prop} (h : P := by first | (rw [start_bad1 (by assumption)] <;> rfl) | (rw [start_bad2 (by assumption) (.inl (is_on (by assumption)))] <;> rfl) | (rw [start_bad2 (by assumption) (.inr (.inl (by assumption)))] <;> rfl) | (rw [start_bad2 (by assumption) (.inr (.inr (by assumption)))] <;> rfl) | (rw [(rstart_go (r := d0) (k := d1) (t := d2) (by assumption) (by assumption) (by assumption) (by assumption)).2] <;> rfl)) : P := h
theorem fin3_rStart_ok {P : Prop} (h : P := by first | omega | (simp only [List.length_append, List.length_nil, List.length_cons, List.length_take, List.length_drop] at *; omega) | (have h_ := ‹_[d1.toNat]? = some _›; rw [rkeep_wait] at h_; have h2_ := rstart_good e0 h_; have h3_ := h2_.2.1 (by first | assumption | simpa using ‹_›); simp only [inF] at h2_; omega)) : P := h
set_option maxHeartbeats 4000000 in
theorem rStart_ok (W : World) {m0 : Mem} (hm : mle (m0) (wm W)) {g0 : Nat} {d0 : Dref05Disk} (h0 : Ow (.ptr Tref05Disk) m0 [.pointer (some ⟨g0, 0, none⟩)] (g0, d0)) (d1 : Int) (h1 : inK .i64 d1) (d2 : Int) (h2 : inK .i64 d2) (e0 : okR d0) (e1 : wD (fromR d0) ≤ 1000000000000) : CallR Try.prog 47 [.pointer (some ⟨g0, 0, none⟩), .int .i64 d1, .int .i64 d2] W (m0) (fun v m' => v = .int .i64 ((dStart (fromR d0) d1 d2).2) ∧ Ow (.ptr Tref05Disk) m' [.pointer (some ⟨g0, 0, none⟩)] (g0, toR (dStart (fromR d0) d1 d2).1 d0.2.2.2.2.2.1)) := by
  have h1' := h1; simp only [inK] at h1'
  have h2' := h2; simp only [inK] at h2'
  refine CallR.ofB (n := 87) hm Try.func47 rfl rfl rfl ?_
  refine VC.rs ?_
  refine VO.as ?_
  refine VO.k4 0 1 2 6 ?_
  refine VC.seq ?_
  refine VC.rs ?_
  refine VO.mv ?_
  refine VO.call 1 rfl fnOk58 rfl rfl (fun W hW => rNone_ok W (hW.at (i := 1) rfl) h0) (fun v1 m1 hv1 => ?_)
  obtain ⟨rfl, w1_0⟩ := hv1
  refine VO.k5 0 1 2 6 10 ?_
  refine VC.cond rfl (fun hc2 => ?_) (fun hc2 => ?_)
  · -- T
    refine VC.rs ?_
    refine VO.as ?_
    refine VO.keep [1, 0] [(1, m1), (0, mout (wm W) (m0))] (by kernel_rfl) ?_
    refine VO.k5 0 1 2 6 10 ?_
    refine VC.ret ?_
    refine outR ?_
    refine ⟨_, _, res_run (rs := [.tmp 6]) rfl (.tmp rfl .nil), fun W_ hI => out_of (l := [m1]) hI [1] rfl rfl (mle_refl _) (fun hS_ => ?_)⟩
    dsimp only [packV]
    have hm0_ : (toR (dStart (fromR d0) d1 d2).1 d0.2.2.2.2.2.1 : Dref05Disk) = d0 := by first | rfl | (exact fin0_rStart_ok)
    refine ⟨?_, ?_⟩
    rotate_left
    · rw [hm0_]; exact (Ow.up w1_0 (hS_.1 _ (.head _)))
    all_goals (first | rfl | (exact fin1_rStart_ok))
  · -- F
    refine VC.skip ?_
    refine outN ?_
    refine VC.seq ?_
    refine VC.rs ?_
    refine VO.mv ?_
    refine VO.y rfl (.nilp rfl) ?_
    refine VO.y rfl (.fa rfl tst68 rfl) ?_
    obtain ⟨q3_E, q3_A1, q3_c1, q3_A2, q3_c2, q3_A3, q3_c3, q3_A4, q3_c4, q3_A5, q3_c5, q3_n1, q3_n2, q3_n3, q3_n4, q3_n5, _, q3_S, q3_1, q3_2, q3_3, q3_4, q3_5, q3_8, q3_9⟩ := openP_ref05Disk (x0 := d0.1) (x1 := d0.2.1.1) (x2 := d0.2.1.2.1) (x3 := d0.2.1.2.2.1) (x4 := d0.2.1.2.2.2) (x5 := d0.2.2.1) (x6 := d0.2.2.2.1) (x7 := d0.2.2.2.2.1) (x8 := d0.2.2.2.2.2.1) (x9 := d0.2.2.2.2.2.2) w1_0
    have q3_r1 := Rd.room (q3_1.rd (mle_refl _))
    have q3_r2 := Rd.room (q3_2.rd (mle_refl _))
    have q3_r3 := Rd.room (q3_3.rd (mle_refl _))
    have q3_r4 := Rd.room (q3_4.rd (mle_refl _))
    have q3_r5 := Rd.room (q3_5.rd (mle_refl _))
    simp only [inK] at q3_8
    simp only [inK] at q3_9
    refine VO.inv _ (fun _ h => h.parts (i := 1) rfl q3_S [109, 104, 105, 106, 107, 108]) ?_
    refine VO.y rfl (.ld1 109 rfl tk4 rfl (cellsAt_one rfl rfl)) ?_
    refine VO.mv ?_
    refine VO.decB (t := 15) rfl (fun hc10 => ?_) (fun hc10 => ?_)
    · -- FT
      refine VO.gN ?_
      refine VO.gN ?_
      refine VO.y rfl (.pT rfl rfl) ?_
      refine VO.mv ?_
      refine VO.gN ?_
      refine VO.gN ?_
      refine VO.y rfl (.pT rfl rfl) ?_
      refine VO.gather (l := [mone g0 (.cells [Value.bool d0.1, Value.slice q3_A1 (d0.2.1.1.length) (q3_c1), Value.slice q3_A2 (d0.2.1.2.1.length) (q3_c2), Value.slice q3_A3 (d0.2.1.2.2.1.length) (q3_c3), Value.slice q3_A4 (d0.2.1.2.2.2.length) (q3_c4), Value.slice q3_A5 (d0.2.2.1.length) (q3_c5), Value.bool d0.2.2.2.1, Value.bool d0.2.2.2.2.1, Value.int .i64 (d0.2.2.2.2.2.1), Value.int .i64 (d0.2.2.2.2.2.2)].toArray q3_E (0, 0)), q3_n1, q3_n2, q3_n3, q3_n4, q3_n5]) 111 [109, 104, 105, 106, 107, 108] rfl (fun hg11 => ?_)
      have ho11 : Ow (.ptr Tref05Disk) (muns [mone g0 (.cells [Value.bool d0.1, Value.slice q3_A1 (d0.2.1.1.length) (q3_c1), Value.slice q3_A2 (d0.2.1.2.1.length) (q3_c2), Value.slice q3_A3 (d0.2.1.2.2.1.length) (q3_c3), Value.slice q3_A4 (d0.2.1.2.2.2.length) (q3_c4), Value.slice q3_A5 (d0.2.2.1.length) (q3_c5), Value.bool d0.2.2.2.1, Value.bool d0.2.2.2.2.1, Value.int .i64 (d0.2.2.2.2.2.1), Value.int .i64 (d0.2.2.2.2.2.2)].toArray q3_E (0, 0)), q3_n1, q3_n2, q3_n3, q3_n4, q3_n5]) [.pointer (some ⟨g0, 0, none⟩)] (g0, d0) := (show Ow (.ptr Tref05Disk) _ _ (_, d0) from (mkP_ref05Disk d0.1 d0.2.1.1 d0.2.1.2.1 d0.2.1.2.2.1 d0.2.1.2.2.2 d0.2.2.1 d0.2.2.2.1 d0.2.2.2.2.1 d0.2.2.2.2.2.1 d0.2.2.2.2.2.2 hg11 (OwnL.ow (Ow.ownl q3_1 rfl mnil) rfl) (OwnL.ow (Ow.ownl q3_2 rfl mnil) rfl) (OwnL.ow (Ow.ownl q3_3 rfl mnil) rfl) (OwnL.ow (Ow.ownl q3_4 rfl mnil) rfl) q3_5 (by simp only [inK]; (exact fin3_rStart_ok)) (by simp only [inK]; (exact fin3_rStart_ok))))
      refine VO.keep [111, 0] [(111, muns [mone g0 (.cells [Value.bool d0.1, Value.slice q3_A1 (d0.2.1.1.length) (q3_c1), Value.slice q3_A2 (d0.2.1.2.1.length) (q3_c2), Value.slice q3_A3 (d0.2.1.2.2.1.length) (q3_c3), Value.slice q3_A4 (d0.2.1.2.2.2.length) (q3_c4), Value.slice q3_A5 (d0.2.2.1.length) (q3_c5), Value.bool d0.2.2.2.1, Value.bool d0.2.2.2.2.1, Value.int .i64 (d0.2.2.2.2.2.1), Value.int .i64 (d0.2.2.2.2.2.2)].toArray q3_E (0, 0)), q3_n1, q3_n2, q3_n3, q3_n4, q3_n5]), (0, mout (wm W) (m0))] (by kernel_rfl) ?_
      refine VO.k6 0 1 2 6 10 22 ?_
      refine VC.condT rfl ?_
      refine VC.rs ?_
      refine VO.as ?_
      refine VO.k6 0 1 2 6 10 22 ?_
      refine VC.ret ?_
      refine outR ?_
      refine ⟨_, _, res_run (rs := [.tmp 6]) rfl (.tmp rfl .nil), fun W_ hI => out_of (l := [muns [mone g0 (.cells [Value.bool d0.1, Value.slice q3_A1 (d0.2.1.1.length) (q3_c1), Value.slice q3_A2 (d0.2.1.2.1.length) (q3_c2), Value.slice q3_A3 (d0.2.1.2.2.1.length) (q3_c3), Value.slice q3_A4 (d0.2.1.2.2.2.length) (q3_c4), Value.slice q3_A5 (d0.2.2.1.length) (q3_c5), Value.bool d0.2.2.2.1, Value.bool d0.2.2.2.2.1, Value.int .i64 (d0.2.2.2.2.2.1), Value.int .i64 (d0.2.2.2.2.2.2)].toArray q3_E (0, 0)), q3_n1, q3_n2, q3_n3, q3_n4, q3_n5]]) hI [111] rfl rfl (mle_refl _) (fun hS_ => ?_)⟩
      dsimp only [packV]
      have hm0_ : (toR (dStart (fromR d0) d1 d2).1 d0.2.2.2.2.2.1 : Dref05Disk) = d0 := by first | rfl | (exact fin0_rStart_ok)
      refine ⟨?_, ?_⟩
      rotate_left
      · rw [hm0_]; exact (Ow.up ho11 (hS_.1 _ (.head _)))
      all_goals (first | rfl | (exact fin1_rStart_ok))
    · -- FF
      refine VO.gy rfl ⟨_, rfl, rfl⟩ (.mv rfl) ?_
      refine VO.gy rfl ⟨_, rfl, rfl⟩ (.lss rfl rfl) ?_
      refine VO.y rfl (.pF rfl rfl) ?_
      refine VO.mv ?_
      refine VO.dec (t := 19) rfl (fun hc12 => ?_) (fun hc12 => ?_)
      · -- FFT
        refine VO.gN ?_
        refine VO.gN ?_
        refine VO.y rfl (.pT rfl rfl) ?_
        refine VO.gather (l := [mone g0 (.cells [Value.bool d0.1, Value.slice q3_A1 (d0.2.1.1.length) (q3_c1), Value.slice q3_A2 (d0.2.1.2.1.length) (q3_c2), Value.slice q3_A3 (d0.2.1.2.2.1.length) (q3_c3), Value.slice q3_A4 (d0.2.1.2.2.2.length) (q3_c4), Value.slice q3_A5 (d0.2.2.1.length) (q3_c5), Value.bool d0.2.2.2.1, Value.bool d0.2.2.2.2.1, Value.int .i64 (d0.2.2.2.2.2.1), Value.int .i64 (d0.2.2.2.2.2.2)].toArray q3_E (0, 0)), q3_n1, q3_n2, q3_n3, q3_n4, q3_n5]) 113 [109, 104, 105, 106, 107, 108] rfl (fun hg13 => ?_)
        have ho13 : Ow (.ptr Tref05Disk) (muns [mone g0 (.cells [Value.bool d0.1, Value.slice q3_A1 (d0.2.1.1.length) (q3_c1), Value.slice q3_A2 (d0.2.1.2.1.length) (q3_c2), Value.slice q3_A3 (d0.2.1.2.2.1.length) (q3_c3), Value.slice q3_A4 (d0.2.1.2.2.2.length) (q3_c4), Value.slice q3_A5 (d0.2.2.1.length) (q3_c5), Value.bool d0.2.2.2.1, Value.bool d0.2.2.2.2.1, Value.int .i64 (d0.2.2.2.2.2.1), Value.int .i64 (d0.2.2.2.2.2.2)].toArray q3_E (0, 0)), q3_n1, q3_n2, q3_n3, q3_n4, q3_n5]) [.pointer (some ⟨g0, 0, none⟩)] (g0, d0) := (show Ow (.ptr Tref05Disk) _ _ (_, d0) from (mkP_ref05Disk d0.1 d0.2.1.1 d0.2.1.2.1 d0.2.1.2.2.1 d0.2.1.2.2.2 d0.2.2.1 d0.2.2.2.1 d0.2.2.2.2.1 d0.2.2.2.2.2.1 d0.2.2.2.2.2.2 hg13 (OwnL.ow (Ow.ownl q3_1 rfl mnil) rfl) (OwnL.ow (Ow.ownl q3_2 rfl mnil) rfl) (OwnL.ow (Ow.ownl q3_3 rfl mnil) rfl) (OwnL.ow (Ow.ownl q3_4 rfl mnil) rfl) q3_5 (by simp only [inK]; (exact fin3_rStart_ok)) (by simp only [inK]; (exact fin3_rStart_ok))))
        refine VO.keep [113, 0] [(113, muns [mone g0 (.cells [Value.bool d0.1, Value.slice q3_A1 (d0.2.1.1.length) (q3_c1), Value.slice q3_A2 (d0.2.1.2.1.length) (q3_c2), Value.slice q3_A3 (d0.2.1.2.2.1.length) (q3_c3), Value.slice q3_A4 (d0.2.1.2.2.2.length) (q3_c4), Value.slice q3_A5 (d0.2.2.1.length) (q3_c5), Value.bool d0.2.2.2.1, Value.bool d0.2.2.2.2.1, Value.int .i64 (d0.2.2.2.2.2.1), Value.int .i64 (d0.2.2.2.2.2.2)].toArray q3_E (0, 0)), q3_n1, q3_n2, q3_n3, q3_n4, q3_n5]), (0, mout (wm W) (m0))] (by kernel_rfl) ?_
        refine VO.k6 0 1 2 6 10 22 ?_
        refine VC.condT rfl ?_
        refine VC.rs ?_
        refine VO.as ?_
        refine VO.k6 0 1 2 6 10 22 ?_
        refine VC.ret ?_
        refine outR ?_
        refine ⟨_, _, res_run (rs := [.tmp 6]) rfl (.tmp rfl .nil), fun W_ hI => out_of (l := [muns [mone g0 (.cells [Value.bool d0.1, Value.slice q3_A1 (d0.2.1.1.length) (q3_c1), Value.slice q3_A2 (d0.2.1.2.1.length) (q3_c2), Value.slice q3_A3 (d0.2.1.2.2.1.length) (q3_c3), Value.slice q3_A4 (d0.2.1.2.2.2.length) (q3_c4), Value.slice q3_A5 (d0.2.2.1.length) (q3_c5), Value.bool d0.2.2.2.1, Value.bool d0.2.2.2.2.1, Value.int .i64 (d0.2.2.2.2.2.1), Value.int .i64 (d0.2.2.2.2.2.2)].toArray q3_E (0, 0)), q3_n1, q3_n2, q3_n3, q3_n4, q3_n5]]) hI [113] rfl rfl (mle_refl _) (fun hS_ => ?_)⟩
        dsimp only [packV]
        have hm0_ : (toR (dStart (fromR d0) d1 d2).1 d0.2.2.2.2.2.1 : Dref05Disk) = d0 := by first | rfl | (exact fin0_rStart_ok)
        refine ⟨?_, ?_⟩
        rotate_left
        · rw [hm0_]; exact (Ow.up ho13 (hS_.1 _ (.head _)))
        all_goals (first | rfl | (exact fin1_rStart_ok))
      · -- FFF
        refine VO.gy rfl ⟨_, rfl, rfl⟩ (.mv rfl) ?_
        refine VO.gy rfl ⟨_, rfl, rfl⟩ (.lss rfl rfl) ?_
        refine VO.y rfl (.pF rfl rfl) ?_
        refine VO.gather (l := [mone g0 (.cells [Value.bool d0.1, Value.slice q3_A1 (d0.2.1.1.length) (q3_c1), Value.slice q3_A2 (d0.2.1.2.1.length) (q3_c2), Value.slice q3_A3 (d0.2.1.2.2.1.length) (q3_c3), Value.slice q3_A4 (d0.2.1.2.2.2.length) (q3_c4), Value.slice q3_A5 (d0.2.2.1.length) (q3_c5), Value.bool d0.2.2.2.1, Value.bool d0.2.2.2.2.1, Value.int .i64 (d0.2.2.2.2.2.1), Value.int .i64 (d0.2.2.2.2.2.2)].toArray q3_E (0, 0)), q3_n1, q3_n2, q3_n3, q3_n4, q3_n5]) 114 [109, 104, 105, 106, 107, 108] rfl (fun hg14 => ?_)
        have ho14 : Ow (.ptr Tref05Disk) (muns [mone g0 (.cells [Value.bool d0.1, Value.slice q3_A1 (d0.2.1.1.length) (q3_c1), Value.slice q3_A2 (d0.2.1.2.1.length) (q3_c2), Value.slice q3_A3 (d0.2.1.2.2.1.length) (q3_c3), Value.slice q3_A4 (d0.2.1.2.2.2.length) (q3_c4), Value.slice q3_A5 (d0.2.2.1.length) (q3_c5), Value.bool d0.2.2.2.1, Value.bool d0.2.2.2.2.1, Value.int .i64 (d0.2.2.2.2.2.1), Value.int .i64 (d0.2.2.2.2.2.2)].toArray q3_E (0, 0)), q3_n1, q3_n2, q3_n3, q3_n4, q3_n5]) [.pointer (some ⟨g0, 0, none⟩)] (g0, d0) := (show Ow (.ptr Tref05Disk) _ _ (_, d0) from (mkP_ref05Disk d0.1 d0.2.1.1 d0.2.1.2.1 d0.2.1.2.2.1 d0.2.1.2.2.2 d0.2.2.1 d0.2.2.2.1 d0.2.2.2.2.1 d0.2.2.2.2.2.1 d0.2.2.2.2.2.2 hg14 (OwnL.ow (Ow.ownl q3_1 rfl mnil) rfl) (OwnL.ow (Ow.ownl q3_2 rfl mnil) rfl) (OwnL.ow (Ow.ownl q3_3 rfl mnil) rfl) (OwnL.ow (Ow.ownl q3_4 rfl mnil) rfl) q3_5 (by simp only [inK]; (exact fin3_rStart_ok)) (by simp only [inK]; (exact fin3_rStart_ok))))
        refine VO.keep [114, 0] [(114, muns [mone g0 (.cells [Value.bool d0.1, Value.slice q3_A1 (d0.2.1.1.length) (q3_c1), Value.slice q3_A2 (d0.2.1.2.1.length) (q3_c2), Value.slice q3_A3 (d0.2.1.2.2.1.length) (q3_c3), Value.slice q3_A4 (d0.2.1.2.2.2.length) (q3_c4), Value.slice q3_A5 (d0.2.2.1.length) (q3_c5), Value.bool d0.2.2.2.1, Value.bool d0.2.2.2.2.1, Value.int .i64 (d0.2.2.2.2.2.1), Value.int .i64 (d0.2.2.2.2.2.2)].toArray q3_E (0, 0)), q3_n1, q3_n2, q3_n3, q3_n4, q3_n5]), (0, mout (wm W) (m0))] (by kernel_rfl) ?_
        refine VO.k6 0 1 2 6 10 22 ?_
        refine VC.cond rfl (fun hc15 => ?_) (fun hc15 => ?_)
        · -- FFFT
          refine VC.rs ?_
          refine VO.as ?_
          refine VO.k6 0 1 2 6 10 22 ?_
          refine VC.ret ?_
          refine outR ?_
          refine ⟨_, _, res_run (rs := [.tmp 6]) rfl (.tmp rfl .nil), fun W_ hI => out_of (l := [muns [mone g0 (.cells [Value.bool d0.1, Value.slice q3_A1 (d0.2.1.1.length) (q3_c1), Value.slice q3_A2 (d0.2.1.2.1.length) (q3_c2), Value.slice q3_A3 (d0.2.1.2.2.1.length) (q3_c3), Value.slice q3_A4 (d0.2.1.2.2.2.length) (q3_c4), Value.slice q3_A5 (d0.2.2.1.length) (q3_c5), Value.bool d0.2.2.2.1, Value.bool d0.2.2.2.2.1, Value.int .i64 (d0.2.2.2.2.2.1), Value.int .i64 (d0.2.2.2.2.2.2)].toArray q3_E (0, 0)), q3_n1, q3_n2, q3_n3, q3_n4, q3_n5]]) hI [114] rfl rfl (mle_refl _) (fun hS_ => ?_)⟩
          dsimp only [packV]
          have hm0_ : (toR (dStart (fromR d0) d1 d2).1 d0.2.2.2.2.2.1 : Dref05Disk) = d0 := by first | rfl | (exact fin0_rStart_ok)
          refine ⟨?_, ?_⟩
          rotate_left
          · rw [hm0_]; exact (Ow.up ho14 (hS_.1 _ (.head _)))
          all_goals (first | rfl | (exact fin1_rStart_ok))
        · -- FFFF
          refine VC.skip ?_
          refine outN ?_
          refine VC.rs ?_
          refine VO.mv ?_
          refine VO.mv ?_
          refine VO.call 114 rfl fnOk57 rfl rfl (fun W hW => rKeep_ok W (hW.at (i := 114) rfl) ho14 d1 (by simp only [inK]; (exact fin3_rStart_ok)) (by assumption) (by exact fin3_rStart_ok) (by exact fin3_rStart_ok)) (fun v16 m16 hv16 => ?_)
          obtain ⟨rfl, w16_0⟩ := hv16
          refine VO.k6 0 1 2 6 10 22 ?_
          refine VC.seq ?_
          refine VC.rs ?_
          refine VO.mv ?_
          refine VO.mv ?_
          refine VO.y rfl (.nilp rfl) ?_
          refine VO.y rfl (.fa rfl tst68 rfl) ?_
          obtain ⟨q17_E, q17_A1, q17_c1, q17_A2, q17_c2, q17_A3, q17_c3, q17_A4, q17_c4, q17_A5, q17_c5, q17_n1, q17_n2, q17_n3, q17_n4, q17_n5, _, q17_S, q17_1, q17_2, q17_3, q17_4, q17_5, q17_8, q17_9⟩ := openP_ref05Disk (x0 := (toR (keepR (fromR d0) d1.toNat) d0.2.2.2.2.2.1).1) (x1 := ((toR (keepR (fromR d0) d1.toNat) d0.2.2.2.2.2.1).2.1).1) (x2 := ((toR (keepR (fromR d0) d1.toNat) d0.2.2.2.2.2.1).2.1).2.1) (x3 := ((toR (keepR (fromR d0) d1.toNat) d0.2.2.2.2.2.1).2.1).2.2.1) (x4 := ((toR (keepR (fromR d0) d1.toNat) d0.2.2.2.2.2.1).2.1).2.2.2) (x5 := (toR (keepR (fromR d0) d1.toNat) d0.2.2.2.2.2.1).2.2.1) (x6 := (toR (keepR (fromR d0) d1.toNat) d0.2.2.2.2.2.1).2.2.2.1) (x7 := (toR (keepR (fromR d0) d1.toNat) d0.2.2.2.2.2.1).2.2.2.2.1) (x8 := (toR (keepR (fromR d0) d1.toNat) d0.2.2.2.2.2.1).2.2.2.2.2.1) (x9 := (toR (keepR (fromR d0) d1.toNat) d0.2.2.2.2.2.1).2.2.2.2.2.2) w16_0
          have q17_r1 := Rd.room (q17_1.rd (mle_refl _))
          have q17_r2 := Rd.room (q17_2.rd (mle_refl _))
          have q17_r3 := Rd.room (q17_3.rd (mle_refl _))
          have q17_r4 := Rd.room (q17_4.rd (mle_refl _))
          have q17_r5 := Rd.room (q17_5.rd (mle_refl _))
          simp only [inK] at q17_8
          simp only [inK] at q17_9
          refine VO.inv _ (fun _ h => h.parts (i := 114) rfl q17_S [123, 118, 119, 120, 121, 122]) ?_
          refine VO.y rfl (.ld1 123 rfl tk66 rfl (cellsAt_one rfl rfl)) ?_
          refine VO.y rfl (.lenS rfl tsl66) ?_
          refine VO.y rfl (.lss rfl rfl) ?_
          refine VO.mv ?_
          refine VO.dec (t := 33) rfl (fun hc24 => ?_) (fun hc24 => ?_)
          · -- FFFFT
            refine VO.gy rfl ⟨_, rfl, rfl⟩ (.mv rfl) ?_
            refine VO.gy rfl ⟨_, rfl, rfl⟩ (.nilp rfl) ?_
            refine VO.gy rfl ⟨_, rfl, rfl⟩ (.fa rfl tst68 rfl) ?_
            refine VO.gy rfl ⟨_, rfl, rfl⟩ (.ld1 123 rfl tk66 rfl (cellsAt_one rfl rfl)) ?_
            refine VO.gy rfl ⟨_, rfl, rfl⟩ (.mv rfl) ?_
            obtain ⟨x25, hx25⟩ : ∃ z_, ((toR (keepR (fromR d0) d1.toNat) d0.2.2.2.2.2.1).2.2.1)[(d1).toNat]? = some z_ := ⟨_, List.getElem?_eq_getElem (by exact fin3_rStart_ok)⟩
            obtain ⟨gg25, oo25, ec25, ea25, hce25, hre25⟩ := (Ow.rd q17_5 (mle_refl _)).elem hx25
            cases ea25
            obtain ⟨q25_A3, q25_c3, rfl, q25_0, q25_2, q25_3⟩ := open_ref05Raw (x0 := x25.1) (x1 := x25.2.1) (x2 := x25.2.2.1) (x3 := x25.2.2.2) hre25
            simp only [inK] at q25_0
            simp only [inK] at q25_2
            have q25_r3 := Rd.room q25_3
            refine VO.gy rfl ⟨_, rfl, rfl⟩ (.ixI ((d1).toNat) rfl rfl tsl66 (by exact fin3_rStart_ok) (by exact fin3_rStart_ok)) ?_
            refine VO.gy rfl ⟨_, rfl, rfl⟩ (.fa rfl tst70 rfl) ?_
            refine VO.gy rfl ⟨_, rfl, rfl⟩ (.ld1 122 rfl tk4 rfl (hce25.at1 (j := 1) rfl)) ?_
            refine VO.gy rfl ⟨_, rfl, rfl⟩ (.not rfl) ?_
            refine VO.y rfl (.pT rfl rfl) ?_
            refine VO.gather (l := [mone g0 (.cells [Value.bool ((toR (keepR (fromR d0) d1.toNat) d0.2.2.2.2.2.1).1), Value.slice q17_A1 ((((toR (keepR (fromR d0) d1.toNat) d0.2.2.2.2.2.1).2.1).1).length) (q17_c1), Value.slice q17_A2 ((((toR (keepR (fromR d0) d1.toNat) d0.2.2.2.2.2.1).2.1).2.1).length) (q17_c2), Value.slice q17_A3 ((((toR (keepR (fromR d0) d1.toNat) d0.2.2.2.2.2.1).2.1).2.2.1).length) (q17_c3), Value.slice q17_A4 ((((toR (keepR (fromR d0) d1.toNat) d0.2.2.2.2.2.1).2.1).2.2.2).length) (q17_c4), Value.slice (some ⟨gg25, oo25, none⟩) (((toR (keepR (fromR d0) d1.toNat) d0.2.2.2.2.2.1).2.2.1).length) (q17_c5), Value.bool ((toR (keepR (fromR d0) d1.toNat) d0.2.2.2.2.2.1).2.2.2.1), Value.bool ((toR (keepR (fromR d0) d1.toNat) d0.2.2.2.2.2.1).2.2.2.2.1), Value.int .i64 ((toR (keepR (fromR d0) d1.toNat) d0.2.2.2.2.2.1).2.2.2.2.2.1), Value.int .i64 ((toR (keepR (fromR d0) d1.toNat) d0.2.2.2.2.2.1).2.2.2.2.2.2)].toArray q17_E (0, 0)), q17_n1, q17_n2, q17_n3, q17_n4, q17_n5]) 126 [123, 118, 119, 120, 121, 122] rfl (fun hg26 => ?_)
            have ho26 : Ow (.ptr Tref05Disk) (muns [mone g0 (.cells [Value.bool ((toR (keepR (fromR d0) d1.toNat) d0.2.2.2.2.2.1).1), Value.slice q17_A1 ((((toR (keepR (fromR d0) d1.toNat) d0.2.2.2.2.2.1).2.1).1).length) (q17_c1), Value.slice q17_A2 ((((toR (keepR (fromR d0) d1.toNat) d0.2.2.2.2.2.1).2.1).2.1).length) (q17_c2), Value.slice q17_A3 ((((toR (keepR (fromR d0) d1.toNat) d0.2.2.2.2.2.1).2.1).2.2.1).length) (q17_c3), Value.slice q17_A4 ((((toR (keepR (fromR d0) d1.toNat) d0.2.2.2.2.2.1).2.1).2.2.2).length) (q17_c4), Value.slice (some ⟨gg25, oo25, none⟩) (((toR (keepR (fromR d0) d1.toNat) d0.2.2.2.2.2.1).2.2.1).length) (q17_c5), Value.bool ((toR (keepR (fromR d0) d1.toNat) d0.2.2.2.2.2.1).2.2.2.1), Value.bool ((toR (keepR (fromR d0) d1.toNat) d0.2.2.2.2.2.1).2.2.2.2.1), Value.int .i64 ((toR (keepR (fromR d0) d1.toNat) d0.2.2.2.2.2.1).2.2.2.2.2.1), Value.int .i64 ((toR (keepR (fromR d0) d1.toNat) d0.2.2.2.2.2.1).2.2.2.2.2.2)].toArray q17_E (0, 0)), q17_n1, q17_n2, q17_n3, q17_n4, q17_n5]) [.pointer (some ⟨g0, 0, none⟩)] (g0, (toR (keepR (fromR d0) d1.toNat) d0.2.2.2.2.2.1)) := (show Ow (.ptr Tref05Disk) _ _ (_, (toR (keepR (fromR d0) d1.toNat) d0.2.2.2.2.2.1)) from (mkP_ref05Disk ((toR (keepR (fromR d0) d1.toNat) d0.2.2.2.2.2.1).1) (((toR (keepR (fromR d0) d1.toNat) d0.2.2.2.2.2.1).2.1).1) (((toR (keepR (fromR d0) d1.toNat) d0.2.2.2.2.2.1).2.1).2.1) (((toR (keepR (fromR d0) d1.toNat) d0.2.2.2.2.2.1).2.1).2.2.1) (((toR (keepR (fromR d0) d1.toNat) d0.2.2.2.2.2.1).2.1).2.2.2) ((toR (keepR (fromR d0) d1.toNat) d0.2.2.2.2.2.1).2.2.1) ((toR (keepR (fromR d0) d1.toNat) d0.2.2.2.2.2.1).2.2.2.1) ((toR (keepR (fromR d0) d1.toNat) d0.2.2.2.2.2.1).2.2.2.2.1) ((toR (keepR (fromR d0) d1.toNat) d0.2.2.2.2.2.1).2.2.2.2.2.1) ((toR (keepR (fromR d0) d1.toNat) d0.2.2.2.2.2.1).2.2.2.2.2.2) hg26 (OwnL.ow (Ow.ownl q17_1 rfl mnil) rfl) (OwnL.ow (Ow.ownl q17_2 rfl mnil) rfl) (OwnL.ow (Ow.ownl q17_3 rfl mnil) rfl) (OwnL.ow (Ow.ownl q17_4 rfl mnil) rfl) q17_5 (by simp only [inK]; (exact fin3_rStart_ok)) (by simp only [inK]; (exact fin3_rStart_ok))))
            refine VO.k7 0 1 2 6 10 22 43 ?_
            refine VC.condBN rfl (fun hc27 => ?_) (fun hc27 => ?_)
            · -- FFFFTT
              refine VC.rs ?_
              refine VO.mv ?_
              refine VO.y rfl (.nilp rfl) ?_
              refine VO.y rfl (.fa rfl tst68 rfl) ?_
              obtain ⟨q28_E, q28_A1, q28_c1, q28_A2, q28_c2, q28_A3, q28_c3, q28_A4, q28_c4, q28_A5, q28_c5, q28_n1, q28_n2, q28_n3, q28_n4, q28_n5, _, q28_S, q28_1, q28_2, q28_3, q28_4, q28_5, q28_8, q28_9⟩ := openP_ref05Disk (x0 := (toR (keepR (fromR d0) d1.toNat) d0.2.2.2.2.2.1).1) (x1 := ((toR (keepR (fromR d0) d1.toNat) d0.2.2.2.2.2.1).2.1).1) (x2 := ((toR (keepR (fromR d0) d1.toNat) d0.2.2.2.2.2.1).2.1).2.1) (x3 := ((toR (keepR (fromR d0) d1.toNat) d0.2.2.2.2.2.1).2.1).2.2.1) (x4 := ((toR (keepR (fromR d0) d1.toNat) d0.2.2.2.2.2.1).2.1).2.2.2) (x5 := (toR (keepR (fromR d0) d1.toNat) d0.2.2.2.2.2.1).2.2.1) (x6 := (toR (keepR (fromR d0) d1.toNat) d0.2.2.2.2.2.1).2.2.2.1) (x7 := (toR (keepR (fromR d0) d1.toNat) d0.2.2.2.2.2.1).2.2.2.2.1) (x8 := (toR (keepR (fromR d0) d1.toNat) d0.2.2.2.2.2.1).2.2.2.2.2.1) (x9 := (toR (keepR (fromR d0) d1.toNat) d0.2.2.2.2.2.1).2.2.2.2.2.2) ho26
              have q28_r1 := Rd.room (q28_1.rd (mle_refl _))
              have q28_r2 := Rd.room (q28_2.rd (mle_refl _))
              have q28_r3 := Rd.room (q28_3.rd (mle_refl _))
              have q28_r4 := Rd.room (q28_4.rd (mle_refl _))
              have q28_r5 := Rd.room (q28_5.rd (mle_refl _))
              simp only [inK] at q28_8
              simp only [inK] at q28_9
              refine VO.inv _ (fun _ h => h.parts (i := 126) rfl q28_S [134, 129, 130, 131, 132, 133]) ?_
              refine VO.y rfl (.ld1 134 rfl tk66 rfl (cellsAt_one rfl rfl)) ?_
              refine VO.mv ?_
              obtain ⟨x35, hx35⟩ : ∃ z_, ((toR (keepR (fromR d0) d1.toNat) d0.2.2.2.2.2.1).2.2.1)[(d1).toNat]? = some z_ := ⟨_, List.getElem?_eq_getElem (by exact fin3_rStart_ok)⟩
              obtain ⟨gg35, oo35, ec35, ea35, hce35, hre35⟩ := (Ow.rd q28_5 (mle_refl _)).elem hx35
              cases ea35
              obtain ⟨q35_A3, q35_c3, rfl, q35_0, q35_2, q35_3⟩ := open_ref05Raw (x0 := x35.1) (x1 := x35.2.1) (x2 := x35.2.2.1) (x3 := x35.2.2.2) hre35
              simp only [inK] at q35_0
              simp only [inK] at q35_2
              have q35_r3 := Rd.room q35_3
              refine VO.y rfl (.ixI ((d1).toNat) rfl rfl tsl66 (by exact fin3_rStart_ok) (by exact fin3_rStart_ok)) ?_
              refine VO.y rfl (.ldA 133 rfl tk70 rfl hce35) ?_
              refine VO.alloc 137 rfl tz70 (fun g36 => ?_)
              refine VO.store (k := 4) (c' := [Value.int .i64 (x35.1), Value.bool x35.2.1, Value.int .i64 (x35.2.2.1), Value.slice q35_A3 (x35.2.2.2.length) (q35_c3)]) 137 rfl rfl (.inl tk70) rfl rfl rfl rfl rfl ?_
              refine VO.keep [137, 134, 129, 130, 131, 132, 133, 0] [(137, mone g36 (.cells [Value.int .i64 (x35.1), Value.bool x35.2.1, Value.int .i64 (x35.2.2.1), Value.slice q35_A3 (x35.2.2.2.length) (q35_c3)].toArray 70 (0, 0))), (134, mone g0 (.cells [Value.bool ((toR (keepR (fromR d0) d1.toNat) d0.2.2.2.2.2.1).1), Value.slice q28_A1 ((((toR (keepR (fromR d0) d1.toNat) d0.2.2.2.2.2.1).2.1).1).length) (q28_c1), Value.slice q28_A2 ((((toR (keepR (fromR d0) d1.toNat) d0.2.2.2.2.2.1).2.1).2.1).length) (q28_c2), Value.slice q28_A3 ((((toR (keepR (fromR d0) d1.toNat) d0.2.2.2.2.2.1).2.1).2.2.1).length) (q28_c3), Value.slice q28_A4 ((((toR (keepR (fromR d0) d1.toNat) d0.2.2.2.2.2.1).2.1).2.2.2).length) (q28_c4), Value.slice (some ⟨gg35, oo35, none⟩) (((toR (keepR (fromR d0) d1.toNat) d0.2.2.2.2.2.1).2.2.1).length) (q28_c5), Value.bool ((toR (keepR (fromR d0) d1.toNat) d0.2.2.2.2.2.1).2.2.2.1), Value.bool ((toR (keepR (fromR d0) d1.toNat) d0.2.2.2.2.2.1).2.2.2.2.1), Value.int .i64 ((toR (keepR (fromR d0) d1.toNat) d0.2.2.2.2.2.1).2.2.2.2.2.1), Value.int .i64 ((toR (keepR (fromR d0) d1.toNat) d0.2.2.2.2.2.1).2.2.2.2.2.2)].toArray q28_E (0, 0))), (129, q28_n1), (130, q28_n2), (131, q28_n3), (132, q28_n4), (133, q28_n5), (0, mout (wm W) (m0))] (by kernel_rfl) ?_
              refine VO.k8 0 1 2 6 7 10 22 43 ?_
              refine VC.rs ?_
              have hxe : x35 = x25 := Option.some.inj (hx35.symm.trans hx25)
              subst hxe
              refine VO.mv ?_
              refine VO.y rfl (.fa rfl tst70 rfl) ?_
              refine VO.y rfl (.ld1 137 rfl tk27 rfl (cellsAt_one rfl rfl)) ?_
              refine VO.y rfl (.lenS rfl tsl27) ?_
              refine VO.y rfl (.sub rfl rfl rfl ⟨by exact fin3_rStart_ok, by exact fin3_rStart_ok⟩) ?_
              refine VO.y rfl (.minM rfl rfl) ?_
              refine VO.as ?_
              refine VO.k9 0 1 2 6 7 8 10 22 43 ?_
              refine VC.regD _ 20 [(0, true), (1, true), (2, true), (3, true), (4, true), (5, true), (6, true), (7, true), (8, true), (9, true), (10, true), (11, true), (12, true), (13, true), (14, true), (15, true), (16, true), (18, true), (19, true), (17, false)] follows (by kernel_rfl) (fun _ h => h.sub [137, 134, 129, 130, 131, 132, 133, 0]) ?_
              refine VD.y rfl rfl (.inl rfl) (.mv rfl) ?_
              refine VD.y rfl rfl (.inl rfl) (.fa rfl tst70 rfl) ?_
              refine VD.y rfl rfl (.inl rfl) (.ld1 137 rfl tk3 rfl (cellsAt_one rfl rfl)) ?_
              refine VD.y rfl rfl (.inl rfl) (.mv rfl) ?_
              refine VD.y rfl rfl (.inl rfl) (.fa rfl tst70 rfl) ?_
              refine VD.y rfl rfl (.inl rfl) (.ld1 137 rfl tk3 rfl (cellsAt_one rfl rfl)) ?_
              refine VD.y rfl rfl (.inl rfl) (.nilp rfl) ?_
              refine VD.y rfl rfl (.inl rfl) (.fa rfl tst68 rfl) ?_
              rcases (show x35.1 = (0 : Int) ∨ x35.1 = (1 : Int) ∨ x35.1 = (2 : Int) ∨ x35.1 = (3 : Int) from by exact fin3_rStart_ok) with hi38 | hi38 | hi38 | hi38
              · -- FFFFTT0
                refine VD.y rfl rfl (.inl rfl) (.ixa (i := 0) (o := 1) rfl rfl tar28 hi38 rfl rfl) ?_
                refine VD.y rfl rfl (.inl rfl) (.ld1 134 rfl tk27 rfl (cellsAt_one rfl rfl)) ?_
                refine VD.y rfl rfl (.inl rfl) (.fa rfl tst70 rfl) ?_
                refine VD.y rfl rfl (.inl rfl) (.ld1 137 rfl tk3 rfl (cellsAt_one rfl rfl)) ?_
                refine VD.y rfl rfl (.inl rfl) (.fa rfl tst70 rfl) ?_
                refine VD.y rfl rfl (.inl rfl) (.ld1 137 rfl tk27 rfl (cellsAt_one rfl rfl)) ?_
                refine VD.y rfl rfl (.inl rfl) (.mv rfl) ?_
                have hs39 := q35_3.pre (j := ((min d2 (((x35.2.2.2.length : Nat) : Int) - 1)).toNat)) (by exact fin3_rStart_ok)
                refine VD.y rfl rfl (.inl rfl) (.slHI ((min d2 (((x35.2.2.2.length : Nat) : Int) - 1)).toNat) rfl rfl tsl27 (by exact fin3_rStart_ok) (by exact fin3_rStart_ok)) ?_
                refine VD.y rfl rfl (.inl rfl) (.bst (cs := [Value.int .i64 (x35.1), Value.bool false, Value.int .i64 (0), Value.slice q35_A3 ((min d2 (((x35.2.2.2.length : Nat) : Int) - 1)).toNat) (q35_c3)]) rfl tst70 tz70 rfl) ?_
                refine VD.y rfl rfl (.inl rfl) (.nilp rfl) ?_
                refine VD.y rfl rfl (.inl rfl) (.fa rfl tst68 rfl) ?_
                refine VD.callN 140 rfl rfl (.inl rfl) fnOk59 rfl (fun _ h => h.sub [137, 134, 129, 130, 131, 132, 133, 0]) (fun W hW => rWith_ok W (OwnL.rd (Ow.ownl q28_1 rfl mnil) (hW.at (i := 129) rfl) (mle_nil _)) (mk_ref05Raw (m := wm W) x35.1 false 0 ((x35.2.2.2).take ((min d2 (((x35.2.2.2.length : Nat) : Int) - 1)).toNat)) (by simp only [inK]; (exact fin3_rStart_ok)) (by simp only [inK]; (exact fin3_rStart_ok)) (Rd.mono hs39 (hW.at (i := 133) rfl))) (by intro h_; cases h_) (by (have h_ := ‹_[d1.toNat]? = some _›; rw [rkeep_wait] at h_; have h2_ := (rstart_good e0 h_).2.2; first | (rw [getF0 ‹_ = (0 : Int)›] at h2_; exact room_le h2_ (by omega)) | (rw [getF1 ‹_ = (1 : Int)›] at h2_; exact room_le h2_ (by omega)) | (rw [getF2 ‹_ = (2 : Int)›] at h2_; exact room_le h2_ (by omega)) | (rw [getF3 ‹_ = (3 : Int)›] at h2_; exact room_le h2_ (by omega))))) (fun v40 m40 hv40 => ?_)
                try dsimp only at hv40
                obtain ⟨s40_0, rfl, f40_0⟩ := hv40
                obtain ⟨A40_0, c40_0, eq40_0, l40_0, k40_0⟩ := f40_0.slice
                subst eq40_0
                simp only [maxLen] at k40_0
                refine VD.nil rfl ?_ rfl
                refine VO.y rfl (.ixa (i := 0) (o := 1) rfl rfl tar28 hi38 rfl rfl) ?_
                refine VO.store (k := 1) (c' := [Value.bool ((toR (keepR (fromR d0) d1.toNat) d0.2.2.2.2.2.1).1), Value.slice A40_0 ((doneR (((toR (keepR (fromR d0) d1.toNat) d0.2.2.2.2.2.1).2.1).1) (x35.1, false, 0, (x35.2.2.2).take ((min d2 (((x35.2.2.2.length : Nat) : Int) - 1)).toNat))).length) (c40_0), Value.slice q28_A2 ((((toR (keepR (fromR d0) d1.toNat) d0.2.2.2.2.2.1).2.1).2.1).length) (q28_c2), Value.slice q28_A3 ((((toR (keepR (fromR d0) d1.toNat) d0.2.2.2.2.2.1).2.1).2.2.1).length) (q28_c3), Value.slice q28_A4 ((((toR (keepR (fromR d0) d1.toNat) d0.2.2.2.2.2.1).2.1).2.2.2).length) (q28_c4), Value.slice (some ⟨gg35, oo35, none⟩) (((toR (keepR (fromR d0) d1.toNat) d0.2.2.2.2.2.1).2.2.1).length) (q28_c5), Value.bool ((toR (keepR (fromR d0) d1.toNat) d0.2.2.2.2.2.1).2.2.2.1), Value.bool ((toR (keepR (fromR d0) d1.toNat) d0.2.2.2.2.2.1).2.2.2.2.1), Value.int .i64 ((toR (keepR (fromR d0) d1.toNat) d0.2.2.2.2.2.1).2.2.2.2.2.1), Value.int .i64 ((toR (keepR (fromR d0) d1.toNat) d0.2.2.2.2.2.1).2.2.2.2.2.2)]) 134 rfl rfl (.inr ⟨tk27, rfl⟩) rfl rfl rfl rfl rfl ?_
                refine VO.k9 0 1 2 6 7 8 10 22 43 ?_
                refine outN ?_
                refine VC.rs ?_
                refine VO.mv ?_
                refine VO.y rfl (.nilp rfl) ?_
                refine VO.y rfl (.fa rfl tst68 rfl) ?_
                refine VO.store (k := 1) (c' := [Value.bool ((toR (keepR (fromR d0) d1.toNat) d0.2.2.2.2.2.1).1), Value.slice A40_0 ((doneR (((toR (keepR (fromR d0) d1.toNat) d0.2.2.2.2.2.1).2.1).1) (x35.1, false, 0, (x35.2.2.2).take ((min d2 (((x35.2.2.2.length : Nat) : Int) - 1)).toNat))).length) (c40_0), Value.slice q28_A2 ((((toR (keepR (fromR d0) d1.toNat) d0.2.2.2.2.2.1).2.1).2.1).length) (q28_c2), Value.slice q28_A3 ((((toR (keepR (fromR d0) d1.toNat) d0.2.2.2.2.2.1).2.1).2.2.1).length) (q28_c3), Value.slice q28_A4 ((((toR (keepR (fromR d0) d1.toNat) d0.2.2.2.2.2.1).2.1).2.2.2).length) (q28_c4), Value.slice none (0) (0), Value.bool ((toR (keepR (fromR d0) d1.toNat) d0.2.2.2.2.2.1).2.2.2.1), Value.bool ((toR (keepR (fromR d0) d1.toNat) d0.2.2.2.2.2.1).2.2.2.2.1), Value.int .i64 ((toR (keepR (fromR d0) d1.toNat) d0.2.2.2.2.2.1).2.2.2.2.2.1), Value.int .i64 ((toR (keepR (fromR d0) d1.toNat) d0.2.2.2.2.2.1).2.2.2.2.2.2)]) 134 rfl rfl (.inr ⟨tk66, rfl⟩) rfl rfl rfl rfl rfl ?_
                refine VO.gather (l := [mone g0 (.cells [Value.bool ((toR (keepR (fromR d0) d1.toNat) d0.2.2.2.2.2.1).1), Value.slice A40_0 ((doneR (((toR (keepR (fromR d0) d1.toNat) d0.2.2.2.2.2.1).2.1).1) (x35.1, false, 0, (x35.2.2.2).take ((min d2 (((x35.2.2.2.length : Nat) : Int) - 1)).toNat))).length) (c40_0), Value.slice q28_A2 ((((toR (keepR (fromR d0) d1.toNat) d0.2.2.2.2.2.1).2.1).2.1).length) (q28_c2), Value.slice q28_A3 ((((toR (keepR (fromR d0) d1.toNat) d0.2.2.2.2.2.1).2.1).2.2.1).length) (q28_c3), Value.slice q28_A4 ((((toR (keepR (fromR d0) d1.toNat) d0.2.2.2.2.2.1).2.1).2.2.2).length) (q28_c4), Value.slice none (0) (0), Value.bool ((toR (keepR (fromR d0) d1.toNat) d0.2.2.2.2.2.1).2.2.2.1), Value.bool ((toR (keepR (fromR d0) d1.toNat) d0.2.2.2.2.2.1).2.2.2.2.1), Value.int .i64 ((toR (keepR (fromR d0) d1.toNat) d0.2.2.2.2.2.1).2.2.2.2.2.1), Value.int .i64 ((toR (keepR (fromR d0) d1.toNat) d0.2.2.2.2.2.1).2.2.2.2.2.2)].toArray q28_E (0, 0)), m40, q28_n2, q28_n3, q28_n4]) 141 [134, 140, 130, 131, 132] rfl (fun hg41 => ?_)
                have ho41 : Ow (.ptr Tref05Disk) (muns [mone g0 (.cells [Value.bool ((toR (keepR (fromR d0) d1.toNat) d0.2.2.2.2.2.1).1), Value.slice A40_0 ((doneR (((toR (keepR (fromR d0) d1.toNat) d0.2.2.2.2.2.1).2.1).1) (x35.1, false, 0, (x35.2.2.2).take ((min d2 (((x35.2.2.2.length : Nat) : Int) - 1)).toNat))).length) (c40_0), Value.slice q28_A2 ((((toR (keepR (fromR d0) d1.toNat) d0.2.2.2.2.2.1).2.1).2.1).length) (q28_c2), Value.slice q28_A3 ((((toR (keepR (fromR d0) d1.toNat) d0.2.2.2.2.2.1).2.1).2.2.1).length) (q28_c3), Value.slice q28_A4 ((((toR (keepR (fromR d0) d1.toNat) d0.2.2.2.2.2.1).2.1).2.2.2).length) (q28_c4), Value.slice none (0) (0), Value.bool ((toR (keepR (fromR d0) d1.toNat) d0.2.2.2.2.2.1).2.2.2.1), Value.bool ((toR (keepR (fromR d0) d1.toNat) d0.2.2.2.2.2.1).2.2.2.2.1), Value.int .i64 ((toR (keepR (fromR d0) d1.toNat) d0.2.2.2.2.2.1).2.2.2.2.2.1), Value.int .i64 ((toR (keepR (fromR d0) d1.toNat) d0.2.2.2.2.2.1).2.2.2.2.2.2)].toArray q28_E (0, 0)), m40, q28_n2, q28_n3, q28_n4]) [.pointer (some ⟨g0, 0, none⟩)] (g0, ((toR (keepR (fromR d0) d1.toNat) d0.2.2.2.2.2.1).1, (doneR (((toR (keepR (fromR d0) d1.toNat) d0.2.2.2.2.2.1).2.1).1) (x35.1, false, 0, (x35.2.2.2).take ((min d2 (((x35.2.2.2.length : Nat) : Int) - 1)).toNat)), ((toR (keepR (fromR d0) d1.toNat) d0.2.2.2.2.2.1).2.1).2), [], (toR (keepR (fromR d0) d1.toNat) d0.2.2.2.2.2.1).2.2.2)) := (mkP_ref05Disk ((toR (keepR (fromR d0) d1.toNat) d0.2.2.2.2.2.1).1) (doneR (((toR (keepR (fromR d0) d1.toNat) d0.2.2.2.2.2.1).2.1).1) (x35.1, false, 0, (x35.2.2.2).take ((min d2 (((x35.2.2.2.length : Nat) : Int) - 1)).toNat))) (((toR (keepR (fromR d0) d1.toNat) d0.2.2.2.2.2.1).2.1).2.1) (((toR (keepR (fromR d0) d1.toNat) d0.2.2.2.2.2.1).2.1).2.2.1) (((toR (keepR (fromR d0) d1.toNat) d0.2.2.2.2.2.1).2.1).2.2.2) [] ((toR (keepR (fromR d0) d1.toNat) d0.2.2.2.2.2.1).2.2.2.1) ((toR (keepR (fromR d0) d1.toNat) d0.2.2.2.2.2.1).2.2.2.2.1) ((toR (keepR (fromR d0) d1.toNat) d0.2.2.2.2.2.1).2.2.2.2.2.1) ((toR (keepR (fromR d0) d1.toNat) d0.2.2.2.2.2.1).2.2.2.2.2.2) (Seps.nilAt 5 hg41) (OwnL.ow (Ow.ownl f40_0 rfl mnil) rfl) (OwnL.ow (Ow.ownl q28_2 rfl mnil) rfl) (OwnL.ow (Ow.ownl q28_3 rfl mnil) rfl) (OwnL.ow (Ow.ownl q28_4 rfl mnil) rfl) (Ow.nil _ _) (by simp only [inK]; (exact fin3_rStart_ok)) (by simp only [inK]; (exact fin3_rStart_ok)))
                refine VO.keep [141, 137, 133, 0] [(141, muns [mone g0 (.cells [Value.bool ((toR (keepR (fromR d0) d1.toNat) d0.2.2.2.2.2.1).1), Value.slice A40_0 ((doneR (((toR (keepR (fromR d0) d1.toNat) d0.2.2.2.2.2.1).2.1).1) (x35.1, false, 0, (x35.2.2.2).take ((min d2 (((x35.2.2.2.length : Nat) : Int) - 1)).toNat))).length) (c40_0), Value.slice q28_A2 ((((toR (keepR (fromR d0) d1.toNat) d0.2.2.2.2.2.1).2.1).2.1).length) (q28_c2), Value.slice q28_A3 ((((toR (keepR (fromR d0) d1.toNat) d0.2.2.2.2.2.1).2.1).2.2.1).length) (q28_c3), Value.slice q28_A4 ((((toR (keepR (fromR d0) d1.toNat) d0.2.2.2.2.2.1).2.1).2.2.2).length) (q28_c4), Value.slice none (0) (0), Value.bool ((toR (keepR (fromR d0) d1.toNat) d0.2.2.2.2.2.1).2.2.2.1), Value.bool ((toR (keepR (fromR d0) d1.toNat) d0.2.2.2.2.2.1).2.2.2.2.1), Value.int .i64 ((toR (keepR (fromR d0) d1.toNat) d0.2.2.2.2.2.1).2.2.2.2.2.1), Value.int .i64 ((toR (keepR (fromR d0) d1.toNat) d0.2.2.2.2.2.1).2.2.2.2.2.2)].toArray q28_E (0, 0)), m40, q28_n2, q28_n3, q28_n4]), (137, mone g36 (.cells [Value.int .i64 (x35.1), Value.bool x35.2.1, Value.int .i64 (x35.2.2.1), Value.slice q35_A3 (x35.2.2.2.length) (q35_c3)].toArray 70 (0, 0))), (133, q28_n5), (0, mout (wm W) (m0))] (by kernel_rfl) ?_
                refine VO.k9 0 1 2 6 7 8 10 22 43 ?_
                refine VC.rs ?_
                refine VO.mv ?_
                refine VO.y rfl (.nilp rfl) ?_
                refine VO.y rfl (.fa rfl tst68 rfl) ?_
                obtain ⟨q42_E, q42_A1, q42_c1, q42_A2, q42_c2, q42_A3, q42_c3, q42_A4, q42_c4, q42_A5, q42_c5, q42_n1, q42_n2, q42_n3, q42_n4, q42_n5, _, q42_S, q42_1, q42_2, q42_3, q42_4, q42_5, q42_8, q42_9⟩ := openP_ref05Disk (x0 := (toR (keepR (fromR d0) d1.toNat) d0.2.2.2.2.2.1).1) (x1 := doneR (((toR (keepR (fromR d0) d1.toNat) d0.2.2.2.2.2.1).2.1).1) (x35.1, false, 0, (x35.2.2.2).take ((min d2 (((x35.2.2.2.length : Nat) : Int) - 1)).toNat))) (x2 := ((toR (keepR (fromR d0) d1.toNat) d0.2.2.2.2.2.1).2.1).2.1) (x3 := ((toR (keepR (fromR d0) d1.toNat) d0.2.2.2.2.2.1).2.1).2.2.1) (x4 := ((toR (keepR (fromR d0) d1.toNat) d0.2.2.2.2.2.1).2.1).2.2.2) (x5 := []) (x6 := (toR (keepR (fromR d0) d1.toNat) d0.2.2.2.2.2.1).2.2.2.1) (x7 := (toR (keepR (fromR d0) d1.toNat) d0.2.2.2.2.2.1).2.2.2.2.1) (x8 := (toR (keepR (fromR d0) d1.toNat) d0.2.2.2.2.2.1).2.2.2.2.2.1) (x9 := (toR (keepR (fromR d0) d1.toNat) d0.2.2.2.2.2.1).2.2.2.2.2.2) ho41
                have q42_r1 := Rd.room (q42_1.rd (mle_refl _))
                have q42_r2 := Rd.room (q42_2.rd (mle_refl _))
                have q42_r3 := Rd.room (q42_3.rd (mle_refl _))
                have q42_r4 := Rd.room (q42_4.rd (mle_refl _))
                have q42_r5 := Rd.room (q42_5.rd (mle_refl _))
                simp only [inK] at q42_8
                simp only [inK] at q42_9
                refine VO.inv _ (fun _ h => h.parts (i := 141) rfl q42_S [148, 143, 144, 145, 146, 147]) ?_
                refine VO.store (k := 1) (c' := [Value.bool ((toR (keepR (fromR d0) d1.toNat) d0.2.2.2.2.2.1).1), Value.slice q42_A1 ((doneR (((toR (keepR (fromR d0) d1.toNat) d0.2.2.2.2.2.1).2.1).1) (x35.1, false, 0, (x35.2.2.2).take ((min d2 (((x35.2.2.2.length : Nat) : Int) - 1)).toNat))).length) (q42_c1), Value.slice q42_A2 ((((toR (keepR (fromR d0) d1.toNat) d0.2.2.2.2.2.1).2.1).2.1).length) (q42_c2), Value.slice q42_A3 ((((toR (keepR (fromR d0) d1.toNat) d0.2.2.2.2.2.1).2.1).2.2.1).length) (q42_c3), Value.slice q42_A4 ((((toR (keepR (fromR d0) d1.toNat) d0.2.2.2.2.2.1).2.1).2.2.2).length) (q42_c4), Value.slice q42_A5 (([] : List Dref05Raw).length) (q42_c5), Value.bool ((toR (keepR (fromR d0) d1.toNat) d0.2.2.2.2.2.1).2.2.2.1), Value.bool false, Value.int .i64 ((toR (keepR (fromR d0) d1.toNat) d0.2.2.2.2.2.1).2.2.2.2.2.1), Value.int .i64 ((toR (keepR (fromR d0) d1.toNat) d0.2.2.2.2.2.1).2.2.2.2.2.2)]) 148 rfl rfl (.inr ⟨tk4, rfl⟩) rfl rfl rfl rfl rfl ?_
                refine VO.gather (l := [mone g0 (.cells [Value.bool ((toR (keepR (fromR d0) d1.toNat) d0.2.2.2.2.2.1).1), Value.slice q42_A1 ((doneR (((toR (keepR (fromR d0) d1.toNat) d0.2.2.2.2.2.1).2.1).1) (x35.1, false, 0, (x35.2.2.2).take ((min d2 (((x35.2.2.2.length : Nat) : Int) - 1)).toNat))).length) (q42_c1), Value.slice q42_A2 ((((toR (keepR (fromR d0) d1.toNat) d0.2.2.2.2.2.1).2.1).2.1).length) (q42_c2), Value.slice q42_A3 ((((toR (keepR (fromR d0) d1.toNat) d0.2.2.2.2.2.1).2.1).2.2.1).length) (q42_c3), Value.slice q42_A4 ((((toR (keepR (fromR d0) d1.toNat) d0.2.2.2.2.2.1).2.1).2.2.2).length) (q42_c4), Value.slice q42_A5 (([] : List Dref05Raw).length) (q42_c5), Value.bool ((toR (keepR (fromR d0) d1.toNat) d0.2.2.2.2.2.1).2.2.2.1), Value.bool false, Value.int .i64 ((toR (keepR (fromR d0) d1.toNat) d0.2.2.2.2.2.1).2.2.2.2.2.1), Value.int .i64 ((toR (keepR (fromR d0) d1.toNat) d0.2.2.2.2.2.1).2.2.2.2.2.2)].toArray q42_E (0, 0)), q42_n1, q42_n2, q42_n3, q42_n4, q42_n5]) 149 [148, 143, 144, 145, 146, 147] rfl (fun hg49 => ?_)
                have ho49 : Ow (.ptr Tref05Disk) (muns [mone g0 (.cells [Value.bool ((toR (keepR (fromR d0) d1.toNat) d0.2.2.2.2.2.1).1), Value.slice q42_A1 ((doneR (((toR (keepR (fromR d0) d1.toNat) d0.2.2.2.2.2.1).2.1).1) (x35.1, false, 0, (x35.2.2.2).take ((min d2 (((x35.2.2.2.length : Nat) : Int) - 1)).toNat))).length) (q42_c1), Value.slice q42_A2 ((((toR (keepR (fromR d0) d1.toNat) d0.2.2.2.2.2.1).2.1).2.1).length) (q42_c2), Value.slice q42_A3 ((((toR (keepR (fromR d0) d1.toNat) d0.2.2.2.2.2.1).2.1).2.2.1).length) (q42_c3), Value.slice q42_A4 ((((toR (keepR (fromR d0) d1.toNat) d0.2.2.2.2.2.1).2.1).2.2.2).length) (q42_c4), Value.slice q42_A5 (([] : List Dref05Raw).length) (q42_c5), Value.bool ((toR (keepR (fromR d0) d1.toNat) d0.2.2.2.2.2.1).2.2.2.1), Value.bool false, Value.int .i64 ((toR (keepR (fromR d0) d1.toNat) d0.2.2.2.2.2.1).2.2.2.2.2.1), Value.int .i64 ((toR (keepR (fromR d0) d1.toNat) d0.2.2.2.2.2.1).2.2.2.2.2.2)].toArray q42_E (0, 0)), q42_n1, q42_n2, q42_n3, q42_n4, q42_n5]) [.pointer (some ⟨g0, 0, none⟩)] (g0, ((toR (keepR (fromR d0) d1.toNat) d0.2.2.2.2.2.1).1, (doneR (((toR (keepR (fromR d0) d1.toNat) d0.2.2.2.2.2.1).2.1).1) (x35.1, false, 0, (x35.2.2.2).take ((min d2 (((x35.2.2.2.length : Nat) : Int) - 1)).toNat)), ((toR (keepR (fromR d0) d1.toNat) d0.2.2.2.2.2.1).2.1).2), [], (toR (keepR (fromR d0) d1.toNat) d0.2.2.2.2.2.1).2.2.2.1, false, (toR (keepR (fromR d0) d1.toNat) d0.2.2.2.2.2.1).2.2.2.2.2)) := (mkP_ref05Disk ((toR (keepR (fromR d0) d1.toNat) d0.2.2.2.2.2.1).1) (doneR (((toR (keepR (fromR d0) d1.toNat) d0.2.2.2.2.2.1).2.1).1) (x35.1, false, 0, (x35.2.2.2).take ((min d2 (((x35.2.2.2.length : Nat) : Int) - 1)).toNat))) (((toR (keepR (fromR d0) d1.toNat) d0.2.2.2.2.2.1).2.1).2.1) (((toR (keepR (fromR d0) d1.toNat) d0.2.2.2.2.2.1).2.1).2.2.1) (((toR (keepR (fromR d0) d1.toNat) d0.2.2.2.2.2.1).2.1).2.2.2) [] ((toR (keepR (fromR d0) d1.toNat) d0.2.2.2.2.2.1).2.2.2.1) false ((toR (keepR (fromR d0) d1.toNat) d0.2.2.2.2.2.1).2.2.2.2.2.1) ((toR (keepR (fromR d0) d1.toNat) d0.2.2.2.2.2.1).2.2.2.2.2.2) hg49 (OwnL.ow (Ow.ownl q42_1 rfl mnil) rfl) (OwnL.ow (Ow.ownl q42_2 rfl mnil) rfl) (OwnL.ow (Ow.ownl q42_3 rfl mnil) rfl) (OwnL.ow (Ow.ownl q42_4 rfl mnil) rfl) q42_5 (by simp only [inK]; (exact fin3_rStart_ok)) (by simp only [inK]; (exact fin3_rStart_ok)))
                refine VO.k9 0 1 2 6 7 8 10 22 43 ?_
                refine VC.rs ?_
                refine VO.mv ?_
                refine VO.y rfl (.nilp rfl) ?_
                refine VO.y rfl (.fa rfl tst68 rfl) ?_
                obtain ⟨q50_E, q50_A1, q50_c1, q50_A2, q50_c2, q50_A3, q50_c3, q50_A4, q50_c4, q50_A5, q50_c5, q50_n1, q50_n2, q50_n3, q50_n4, q50_n5, _, q50_S, q50_1, q50_2, q50_3, q50_4, q50_5, q50_8, q50_9⟩ := openP_ref05Disk (x0 := (toR (keepR (fromR d0) d1.toNat) d0.2.2.2.2.2.1).1) (x1 := doneR (((toR (keepR (fromR d0) d1.toNat) d0.2.2.2.2.2.1).2.1).1) (x35.1, false, 0, (x35.2.2.2).take ((min d2 (((x35.2.2.2.length : Nat) : Int) - 1)).toNat))) (x2 := ((toR (keepR (fromR d0) d1.toNat) d0.2.2.2.2.2.1).2.1).2.1) (x3 := ((toR (keepR (fromR d0) d1.toNat) d0.2.2.2.2.2.1).2.1).2.2.1) (x4 := ((toR (keepR (fromR d0) d1.toNat) d0.2.2.2.2.2.1).2.1).2.2.2) (x5 := []) (x6 := (toR (keepR (fromR d0) d1.toNat) d0.2.2.2.2.2.1).2.2.2.1) (x7 := false) (x8 := (toR (keepR (fromR d0) d1.toNat) d0.2.2.2.2.2.1).2.2.2.2.2.1) (x9 := (toR (keepR (fromR d0) d1.toNat) d0.2.2.2.2.2.1).2.2.2.2.2.2) ho49
                have q50_r1 := Rd.room (q50_1.rd (mle_refl _))
                have q50_r2 := Rd.room (q50_2.rd (mle_refl _))
                have q50_r3 := Rd.room (q50_3.rd (mle_refl _))
                have q50_r4 := Rd.room (q50_4.rd (mle_refl _))
                have q50_r5 := Rd.room (q50_5.rd (mle_refl _))
                simp only [inK] at q50_8
                simp only [inK] at q50_9
                refine VO.inv _ (fun _ h => h.parts (i := 149) rfl q50_S [156, 151, 152, 153, 154, 155]) ?_
                refine VO.store (k := 1) (c' := [Value.bool ((toR (keepR (fromR d0) d1.toNat) d0.2.2.2.2.2.1).1), Value.slice q50_A1 ((doneR (((toR (keepR (fromR d0) d1.toNat) d0.2.2.2.2.2.1).2.1).1) (x35.1, false, 0, (x35.2.2.2).take ((min d2 (((x35.2.2.2.length : Nat) : Int) - 1)).toNat))).length) (q50_c1), Value.slice q50_A2 ((((toR (keepR (fromR d0) d1.toNat) d0.2.2.2.2.2.1).2.1).2.1).length) (q50_c2), Value.slice q50_A3 ((((toR (keepR (fromR d0) d1.toNat) d0.2.2.2.2.2.1).2.1).2.2.1).length) (q50_c3), Value.slice q50_A4 ((((toR (keepR (fromR d0) d1.toNat) d0.2.2.2.2.2.1).2.1).2.2.2).length) (q50_c4), Value.slice q50_A5 (([] : List Dref05Raw).length) (q50_c5), Value.bool true, Value.bool false, Value.int .i64 ((toR (keepR (fromR d0) d1.toNat) d0.2.2.2.2.2.1).2.2.2.2.2.1), Value.int .i64 ((toR (keepR (fromR d0) d1.toNat) d0.2.2.2.2.2.1).2.2.2.2.2.2)]) 156 rfl rfl (.inr ⟨tk4, rfl⟩) rfl rfl rfl rfl rfl ?_
                refine VO.gather (l := [mone g0 (.cells [Value.bool ((toR (keepR (fromR d0) d1.toNat) d0.2.2.2.2.2.1).1), Value.slice q50_A1 ((doneR (((toR (keepR (fromR d0) d1.toNat) d0.2.2.2.2.2.1).2.1).1) (x35.1, false, 0, (x35.2.2.2).take ((min d2 (((x35.2.2.2.length : Nat) : Int) - 1)).toNat))).length) (q50_c1), Value.slice q50_A2 ((((toR (keepR (fromR d0) d1.toNat) d0.2.2.2.2.2.1).2.1).2.1).length) (q50_c2), Value.slice q50_A3 ((((toR (keepR (fromR d0) d1.toNat) d0.2.2.2.2.2.1).2.1).2.2.1).length) (q50_c3), Value.slice q50_A4 ((((toR (keepR (fromR d0) d1.toNat) d0.2.2.2.2.2.1).2.1).2.2.2).length) (q50_c4), Value.slice q50_A5 (([] : List Dref05Raw).length) (q50_c5), Value.bool true, Value.bool false, Value.int .i64 ((toR (keepR (fromR d0) d1.toNat) d0.2.2.2.2.2.1).2.2.2.2.2.1), Value.int .i64 ((toR (keepR (fromR d0) d1.toNat) d0.2.2.2.2.2.1).2.2.2.2.2.2)].toArray q50_E (0, 0)), q50_n1, q50_n2, q50_n3, q50_n4, q50_n5]) 157 [156, 151, 152, 153, 154, 155] rfl (fun hg57 => ?_)
                have ho57 : Ow (.ptr Tref05Disk) (muns [mone g0 (.cells [Value.bool ((toR (keepR (fromR d0) d1.toNat) d0.2.2.2.2.2.1).1), Value.slice q50_A1 ((doneR (((toR (keepR (fromR d0) d1.toNat) d0.2.2.2.2.2.1).2.1).1) (x35.1, false, 0, (x35.2.2.2).take ((min d2 (((x35.2.2.2.length : Nat) : Int) - 1)).toNat))).length) (q50_c1), Value.slice q50_A2 ((((toR (keepR (fromR d0) d1.toNat) d0.2.2.2.2.2.1).2.1).2.1).length) (q50_c2), Value.slice q50_A3 ((((toR (keepR (fromR d0) d1.toNat) d0.2.2.2.2.2.1).2.1).2.2.1).length) (q50_c3), Value.slice q50_A4 ((((toR (keepR (fromR d0) d1.toNat) d0.2.2.2.2.2.1).2.1).2.2.2).length) (q50_c4), Value.slice q50_A5 (([] : List Dref05Raw).length) (q50_c5), Value.bool true, Value.bool false, Value.int .i64 ((toR (keepR (fromR d0) d1.toNat) d0.2.2.2.2.2.1).2.2.2.2.2.1), Value.int .i64 ((toR (keepR (fromR d0) d1.toNat) d0.2.2.2.2.2.1).2.2.2.2.2.2)].toArray q50_E (0, 0)), q50_n1, q50_n2, q50_n3, q50_n4, q50_n5]) [.pointer (some ⟨g0, 0, none⟩)] (g0, ((toR (keepR (fromR d0) d1.toNat) d0.2.2.2.2.2.1).1, (doneR (((toR (keepR (fromR d0) d1.toNat) d0.2.2.2.2.2.1).2.1).1) (x35.1, false, 0, (x35.2.2.2).take ((min d2 (((x35.2.2.2.length : Nat) : Int) - 1)).toNat)), ((toR (keepR (fromR d0) d1.toNat) d0.2.2.2.2.2.1).2.1).2), [], true, false, (toR (keepR (fromR d0) d1.toNat) d0.2.2.2.2.2.1).2.2.2.2.2)) := (mkP_ref05Disk ((toR (keepR (fromR d0) d1.toNat) d0.2.2.2.2.2.1).1) (doneR (((toR (keepR (fromR d0) d1.toNat) d0.2.2.2.2.2.1).2.1).1) (x35.1, false, 0, (x35.2.2.2).take ((min d2 (((x35.2.2.2.length : Nat) : Int) - 1)).toNat))) (((toR (keepR (fromR d0) d1.toNat) d0.2.2.2.2.2.1).2.1).2.1) (((toR (keepR (fromR d0) d1.toNat) d0.2.2.2.2.2.1).2.1).2.2.1) (((toR (keepR (fromR d0) d1.toNat) d0.2.2.2.2.2.1).2.1).2.2.2) [] true false ((toR (keepR (fromR d0) d1.toNat) d0.2.2.2.2.2.1).2.2.2.2.2.1) ((toR (keepR (fromR d0) d1.toNat) d0.2.2.2.2.2.1).2.2.2.2.2.2) hg57 (OwnL.ow (Ow.ownl q50_1 rfl mnil) rfl) (OwnL.ow (Ow.ownl q50_2 rfl mnil) rfl) (OwnL.ow (Ow.ownl q50_3 rfl mnil) rfl) (OwnL.ow (Ow.ownl q50_4 rfl mnil) rfl) q50_5 (by simp only [inK]; (exact fin3_rStart_ok)) (by simp only [inK]; (exact fin3_rStart_ok)))
                refine VO.k9 0 1 2 6 7 8 10 22 43 ?_
                refine VC.rs ?_
                refine VO.as ?_
                refine VO.keep [157, 137, 133, 0] [(157, muns [mone g0 (.cells [Value.bool ((toR (keepR (fromR d0) d1.toNat) d0.2.2.2.2.2.1).1), Value.slice q50_A1 ((doneR (((toR (keepR (fromR d0) d1.toNat) d0.2.2.2.2.2.1).2.1).1) (x35.1, false, 0, (x35.2.2.2).take ((min d2 (((x35.2.2.2.length : Nat) : Int) - 1)).toNat))).length) (q50_c1), Value.slice q50_A2 ((((toR (keepR (fromR d0) d1.toNat) d0.2.2.2.2.2.1).2.1).2.1).length) (q50_c2), Value.slice q50_A3 ((((toR (keepR (fromR d0) d1.toNat) d0.2.2.2.2.2.1).2.1).2.2.1).length) (q50_c3), Value.slice q50_A4 ((((toR (keepR (fromR d0) d1.toNat) d0.2.2.2.2.2.1).2.1).2.2.2).length) (q50_c4), Value.slice q50_A5 (([] : List Dref05Raw).length) (q50_c5), Value.bool true, Value.bool false, Value.int .i64 ((toR (keepR (fromR d0) d1.toNat) d0.2.2.2.2.2.1).2.2.2.2.2.1), Value.int .i64 ((toR (keepR (fromR d0) d1.toNat) d0.2.2.2.2.2.1).2.2.2.2.2.2)].toArray q50_E (0, 0)), q50_n1, q50_n2, q50_n3, q50_n4, q50_n5]), (137, mone g36 (.cells [Value.int .i64 (x35.1), Value.bool x35.2.1, Value.int .i64 (x35.2.2.1), Value.slice q35_A3 (x35.2.2.2.length) (q35_c3)].toArray 70 (0, 0))), (133, q28_n5), (0, mout (wm W) (m0))] (by kernel_rfl) ?_
                refine VO.k9 0 1 2 6 7 8 10 22 43 ?_
                refine VC.ret ?_
                refine ⟨_, _, res_run (rs := [.tmp 6]) rfl (.tmp rfl .nil), fun W_ hI => out_of (l := [muns [mone g0 (.cells [Value.bool ((toR (keepR (fromR d0) d1.toNat) d0.2.2.2.2.2.1).1), Value.slice q50_A1 ((doneR (((toR (keepR (fromR d0) d1.toNat) d0.2.2.2.2.2.1).2.1).1) (x35.1, false, 0, (x35.2.2.2).take ((min d2 (((x35.2.2.2.length : Nat) : Int) - 1)).toNat))).length) (q50_c1), Value.slice q50_A2 ((((toR (keepR (fromR d0) d1.toNat) d0.2.2.2.2.2.1).2.1).2.1).length) (q50_c2), Value.slice q50_A3 ((((toR (keepR (fromR d0) d1.toNat) d0.2.2.2.2.2.1).2.1).2.2.1).length) (q50_c3), Value.slice q50_A4 ((((toR (keepR (fromR d0) d1.toNat) d0.2.2.2.2.2.1).2.1).2.2.2).length) (q50_c4), Value.slice q50_A5 (([] : List Dref05Raw).length) (q50_c5), Value.bool true, Value.bool false, Value.int .i64 ((toR (keepR (fromR d0) d1.toNat) d0.2.2.2.2.2.1).2.2.2.2.2.1), Value.int .i64 ((toR (keepR (fromR d0) d1.toNat) d0.2.2.2.2.2.1).2.2.2.2.2.2)].toArray q50_E (0, 0)), q50_n1, q50_n2, q50_n3, q50_n4, q50_n5]]) hI [157] rfl rfl (mle_refl _) (fun hS_ => ?_)⟩
                dsimp only [packV]
                have hm0_ : (toR (dStart (fromR d0) d1 d2).1 d0.2.2.2.2.2.1 : Dref05Disk) = ((toR (keepR (fromR d0) d1.toNat) d0.2.2.2.2.2.1).1, (doneR (((toR (keepR (fromR d0) d1.toNat) d0.2.2.2.2.2.1).2.1).1) (x35.1, false, 0, (x35.2.2.2).take ((min d2 (((x35.2.2.2.length : Nat) : Int) - 1)).toNat)), ((toR (keepR (fromR d0) d1.toNat) d0.2.2.2.2.2.1).2.1).2), [], true, false, (toR (keepR (fromR d0) d1.toNat) d0.2.2.2.2.2.1).2.2.2.2.2) := by first | rfl | (exact fin0_rStart_ok)
                refine ⟨?_, ?_⟩
                rotate_left
                · rw [hm0_]; exact (Ow.up ho57 (hS_.1 _ (.head _)))
                all_goals (first | rfl | (exact fin1_rStart_ok))
              · -- FFFFTT1
                refine VD.y rfl rfl (.inl rfl) (.ixa (i := 1) (o := 2) rfl rfl tar28 hi38 rfl rfl) ?_
                refine VD.y rfl rfl (.inl rfl) (.ld1 134 rfl tk27 rfl (cellsAt_one rfl rfl)) ?_
                refine VD.y rfl rfl (.inl rfl) (.fa rfl tst70 rfl) ?_
                refine VD.y rfl rfl (.inl rfl) (.ld1 137 rfl tk3 rfl (cellsAt_one rfl rfl)) ?_
                refine VD.y rfl rfl (.inl rfl) (.fa rfl tst70 rfl) ?_
                refine VD.y rfl rfl (.inl rfl) (.ld1 137 rfl tk27 rfl (cellsAt_one rfl rfl)) ?_
                refine VD.y rfl rfl (.inl rfl) (.mv rfl) ?_
                have hs58 := q35_3.pre (j := ((min d2 (((x35.2.2.2.length : Nat) : Int) - 1)).toNat)) (by exact fin3_rStart_ok)
                refine VD.y rfl rfl (.inl rfl) (.slHI ((min d2 (((x35.2.2.2.length : Nat) : Int) - 1)).toNat) rfl rfl tsl27 (by exact fin3_rStart_ok) (by exact fin3_rStart_ok)) ?_
                refine VD.y rfl rfl (.inl rfl) (.bst (cs := [Value.int .i64 (x35.1), Value.bool false, Value.int .i64 (0), Value.slice q35_A3 ((min d2 (((x35.2.2.2.length : Nat) : Int) - 1)).toNat) (q35_c3)]) rfl tst70 tz70 rfl) ?_
                refine VD.y rfl rfl (.inl rfl) (.nilp rfl) ?_
                refine VD.y rfl rfl (.inl rfl) (.fa rfl tst68 rfl) ?_
                refine VD.callN 159 rfl rfl (.inl rfl) fnOk59 rfl (fun _ h => h.sub [137, 134, 129, 130, 131, 132, 133, 0]) (fun W hW => rWith_ok W (OwnL.rd (Ow.ownl q28_2 rfl mnil) (hW.at (i := 130) rfl) (mle_nil _)) (mk_ref05Raw (m := wm W) x35.1 false 0 ((x35.2.2.2).take ((min d2 (((x35.2.2.2.length : Nat) : Int) - 1)).toNat)) (by simp only [inK]; (exact fin3_rStart_ok)) (by simp only [inK]; (exact fin3_rStart_ok)) (Rd.mono hs58 (hW.at (i := 133) rfl))) (by intro h_; cases h_) (by (have h_ := ‹_[d1.toNat]? = some _›; rw [rkeep_wait] at h_; have h2_ := (rstart_good e0 h_).2.2; first | (rw [getF0 ‹_ = (0 : Int)›] at h2_; exact room_le h2_ (by omega)) | (rw [getF1 ‹_ = (1 : Int)›] at h2_; exact room_le h2_ (by omega)) | (rw [getF2 ‹_ = (2 : Int)›] at h2_; exact room_le h2_ (by omega)) | (rw [getF3 ‹_ = (3 : Int)›] at h2_; exact room_le h2_ (by omega))))) (fun v59 m59 hv59 => ?_)
                try dsimp only at hv59
                obtain ⟨s59_0, rfl, f59_0⟩ := hv59
                obtain ⟨A59_0, c59_0, eq59_0, l59_0, k59_0⟩ := f59_0.slice
                subst eq59_0
                simp only [maxLen] at k59_0
                refine VD.nil rfl ?_ rfl
                refine VO.y rfl (.ixa (i := 1) (o := 2) rfl rfl tar28 hi38 rfl rfl) ?_
                refine VO.store (k := 1) (c' := [Value.bool ((toR (keepR (fromR d0) d1.toNat) d0.2.2.2.2.2.1).1), Value.slice q28_A1 ((((toR (keepR (fromR d0) d1.toNat) d0.2.2.2.2.2.1).2.1).1).length) (q28_c1), Value.slice A59_0 ((doneR (((toR (keepR (fromR d0) d1.toNat) d0.2.2.2.2.2.1).2.1).2.1) (x35.1, false, 0, (x35.2.2.2).take ((min d2 (((x35.2.2.2.length : Nat) : Int) - 1)).toNat))).length) (c59_0), Value.slice q28_A3 ((((toR (keepR (fromR d0) d1.toNat) d0.2.2.2.2.2.1).2.1).2.2.1).length) (q28_c3), Value.slice q28_A4 ((((toR (keepR (fromR d0) d1.toNat) d0.2.2.2.2.2.1).2.1).2.2.2).length) (q28_c4), Value.slice (some ⟨gg35, oo35, none⟩) (((toR (keepR (fromR d0) d1.toNat) d0.2.2.2.2.2.1).2.2.1).length) (q28_c5), Value.bool ((toR (keepR (fromR d0) d1.toNat) d0.2.2.2.2.2.1).2.2.2.1), Value.bool ((toR (keepR (fromR d0) d1.toNat) d0.2.2.2.2.2.1).2.2.2.2.1), Value.int .i64 ((toR (keepR (fromR d0) d1.toNat) d0.2.2.2.2.2.1).2.2.2.2.2.1), Value.int .i64 ((toR (keepR (fromR d0) d1.toNat) d0.2.2.2.2.2.1).2.2.2.2.2.2)]) 134 rfl rfl (.inr ⟨tk27, rfl⟩) rfl rfl rfl rfl rfl ?_
                refine VO.k9 0 1 2 6 7 8 10 22 43 ?_
                refine outN ?_
                refine VC.rs ?_
                refine VO.mv ?_
                refine VO.y rfl (.nilp rfl) ?_
                refine VO.y rfl (.fa rfl tst68 rfl) ?_
                refine VO.store (k := 1) (c' := [Value.bool ((toR (keepR (fromR d0) d1.toNat) d0.2.2.2.2.2.1).1), Value.slice q28_A1 ((((toR (keepR (fromR d0) d1.toNat) d0.2.2.2.2.2.1).2.1).1).length) (q28_c1), Value.slice A59_0 ((doneR (((toR (keepR (fromR d0) d1.toNat) d0.2.2.2.2.2.1).2.1).2.1) (x35.1, false, 0, (x35.2.2.2).take ((min d2 (((x35.2.2.2.length : Nat) : Int) - 1)).toNat))).length) (c59_0), Value.slice q28_A3 ((((toR (keepR (fromR d0) d1.toNat) d0.2.2.2.2.2.1).2.1).2.2.1).length) (q28_c3), Value.slice q28_A4 ((((toR (keepR (fromR d0) d1.toNat) d0.2.2.2.2.2.1).2.1).2.2.2).length) (q28_c4), Value.slice none (0) (0), Value.bool ((toR (keepR (fromR d0) d1.toNat) d0.2.2.2.2.2.1).2.2.2.1), Value.bool ((toR (keepR (fromR d0) d1.toNat) d0.2.2.2.2.2.1).2.2.2.2.1), Value.int .i64 ((toR (keepR (fromR d0) d1.toNat) d0.2.2.2.2.2.1).2.2.2.2.2.1), Value.int .i64 ((toR (keepR (fromR d0) d1.toNat) d0.2.2.2.2.2.1).2.2.2.2.2.2)]) 134 rfl rfl (.inr ⟨tk66, rfl⟩) rfl rfl rfl rfl rfl ?_
                refine VO.gather (l := [mone g0 (.cells [Value.bool ((toR (keepR (fromR d0) d1.toNat) d0.2.2.2.2.2.1).1), Value.slice q28_A1 ((((toR (keepR (fromR d0) d1.toNat) d0.2.2.2.2.2.1).2.1).1).length) (q28_c1), Value.slice A59_0 ((doneR (((toR (keepR (fromR d0) d1.toNat) d0.2.2.2.2.2.1).2.1).2.1) (x35.1, false, 0, (x35.2.2.2).take ((min d2 (((x35.2.2.2.length : Nat) : Int) - 1)).toNat))).length) (c59_0), Value.slice q28_A3 ((((toR (keepR (fromR d0) d1.toNat) d0.2.2.2.2.2.1).2.1).2.2.1).length) (q28_c3), Value.slice q28_A4 ((((toR (keepR (fromR d0) d1.toNat) d0.2.2.2.2.2.1).2.1).2.2.2).length) (q28_c4), Value.slice none (0) (0), Value.bool ((toR (keepR (fromR d0) d1.toNat) d0.2.2.2.2.2.1).2.2.2.1), Value.bool ((toR (keepR (fromR d0) d1.toNat) d0.2.2.2.2.2.1).2.2.2.2.1), Value.int .i64 ((toR (keepR (fromR d0) d1.toNat) d0.2.2.2.2.2.1).2.2.2.2.2.1), Value.int .i64 ((toR (keepR (fromR d0) d1.toNat) d0.2.2.2.2.2.1).2.2.2.2.2.2)].toArray q28_E (0, 0)), q28_n1, m59, q28_n3, q28_n4]) 160 [134, 129, 159, 131, 132] rfl (fun hg60 => ?_)
                have ho60 : Ow (.ptr Tref05Disk) (muns [mone g0 (.cells [Value.bool ((toR (keepR (fromR d0) d1.toNat) d0.2.2.2.2.2.1).1), Value.slice q28_A1 ((((toR (keepR (fromR d0) d1.toNat) d0.2.2.2.2.2.1).2.1).1).length) (q28_c1), Value.slice A59_0 ((doneR (((toR (keepR (fromR d0) d1.toNat) d0.2.2.2.2.2.1).2.1).2.1) (x35.1, false, 0, (x35.2.2.2).take ((min d2 (((x35.2.2.2.length : Nat) : Int) - 1)).toNat))).length) (c59_0), Value.slice q28_A3 ((((toR (keepR (fromR d0) d1.toNat) d0.2.2.2.2.2.1).2.1).2.2.1).length) (q28_c3), Value.slice q28_A4 ((((toR (keepR (fromR d0) d1.toNat) d0.2.2.2.2.2.1).2.1).2.2.2).length) (q28_c4), Value.slice none (0) (0), Value.bool ((toR (keepR (fromR d0) d1.toNat) d0.2.2.2.2.2.1).2.2.2.1), Value.bool ((toR (keepR (fromR d0) d1.toNat) d0.2.2.2.2.2.1).2.2.2.2.1), Value.int .i64 ((toR (keepR (fromR d0) d1.toNat) d0.2.2.2.2.2.1).2.2.2.2.2.1), Value.int .i64 ((toR (keepR (fromR d0) d1.toNat) d0.2.2.2.2.2.1).2.2.2.2.2.2)].toArray q28_E (0, 0)), q28_n1, m59, q28_n3, q28_n4]) [.pointer (some ⟨g0, 0, none⟩)] (g0, ((toR (keepR (fromR d0) d1.toNat) d0.2.2.2.2.2.1).1, (((toR (keepR (fromR d0) d1.toNat) d0.2.2.2.2.2.1).2.1).1, doneR (((toR (keepR (fromR d0) d1.toNat) d0.2.2.2.2.2.1).2.1).2.1) (x35.1, false, 0, (x35.2.2.2).take ((min d2 (((x35.2.2.2.length : Nat) : Int) - 1)).toNat)), ((toR (keepR (fromR d0) d1.toNat) d0.2.2.2.2.2.1).2.1).2.2), [], (toR (keepR (fromR d0) d1.toNat) d0.2.2.2.2.2.1).2.2.2)) := (mkP_ref05Disk ((toR (keepR (fromR d0) d1.toNat) d0.2.2.2.2.2.1).1) (((toR (keepR (fromR d0) d1.toNat) d0.2.2.2.2.2.1).2.1).1) (doneR (((toR (keepR (fromR d0) d1.toNat) d0.2.2.2.2.2.1).2.1).2.1) (x35.1, false, 0, (x35.2.2.2).take ((min d2 (((x35.2.2.2.length : Nat) : Int) - 1)).toNat))) (((toR (keepR (fromR d0) d1.toNat) d0.2.2.2.2.2.1).2.1).2.2.1) (((toR (keepR (fromR d0) d1.toNat) d0.2.2.2.2.2.1).2.1).2.2.2) [] ((toR (keepR (fromR d0) d1.toNat) d0.2.2.2.2.2.1).2.2.2.1) ((toR (keepR (fromR d0) d1.toNat) d0.2.2.2.2.2.1).2.2.2.2.1) ((toR (keepR (fromR d0) d1.toNat) d0.2.2.2.2.2.1).2.2.2.2.2.1) ((toR (keepR (fromR d0) d1.toNat) d0.2.2.2.2.2.1).2.2.2.2.2.2) (Seps.nilAt 5 hg60) (OwnL.ow (Ow.ownl q28_1 rfl mnil) rfl) (OwnL.ow (Ow.ownl f59_0 rfl mnil) rfl) (OwnL.ow (Ow.ownl q28_3 rfl mnil) rfl) (OwnL.ow (Ow.ownl q28_4 rfl mnil) rfl) (Ow.nil _ _) (by simp only [inK]; (exact fin3_rStart_ok)) (by simp only [inK]; (exact fin3_rStart_ok)))
                refine VO.keep [160, 137, 133, 0] [(160, muns [mone g0 (.cells [Value.bool ((toR (keepR (fromR d0) d1.toNat) d0.2.2.2.2.2.1).1), Value.slice q28_A1 ((((toR (keepR (fromR d0) d1.toNat) d0.2.2.2.2.2.1).2.1).1).length) (q28_c1), Value.slice A59_0 ((doneR (((toR (keepR (fromR d0) d1.toNat) d0.2.2.2.2.2.1).2.1).2.1) (x35.1, false, 0, (x35.2.2.2).take ((min d2 (((x35.2.2.2.length : Nat) : Int) - 1)).toNat))).length) (c59_0), Value.slice q28_A3 ((((toR (keepR (fromR d0) d1.toNat) d0.2.2.2.2.2.1).2.1).2.2.1).length) (q28_c3), Value.slice q28_A4 ((((toR (keepR (fromR d0) d1.toNat) d0.2.2.2.2.2.1).2.1).2.2.2).length) (q28_c4), Value.slice none (0) (0), Value.bool ((toR (keepR (fromR d0) d1.toNat) d0.2.2.2.2.2.1).2.2.2.1), Value.bool ((toR (keepR (fromR d0) d1.toNat) d0.2.2.2.2.2.1).2.2.2.2.1), Value.int .i64 ((toR (keepR (fromR d0) d1.toNat) d0.2.2.2.2.2.1).2.2.2.2.2.1), Value.int .i64 ((toR (keepR (fromR d0) d1.toNat) d0.2.2.2.2.2.1).2.2.2.2.2.2)].toArray q28_E (0, 0)), q28_n1, m59, q28_n3, q28_n4]), (137, mone g36 (.cells [Value.int .i64 (x35.1), Value.bool x35.2.1, Value.int .i64 (x35.2.2.1), Value.slice q35_A3 (x35.2.2.2.length) (q35_c3)].toArray 70 (0, 0))), (133, q28_n5), (0, mout (wm W) (m0))] (by kernel_rfl) ?_
                refine VO.k9 0 1 2 6 7 8 10 22 43 ?_
                refine VC.rs ?_
                refine VO.mv ?_
                refine VO.y rfl (.nilp rfl) ?_
                refine VO.y rfl (.fa rfl tst68 rfl) ?_
                obtain ⟨q61_E, q61_A1, q61_c1, q61_A2, q61_c2, q61_A3, q61_c3, q61_A4, q61_c4, q61_A5, q61_c5, q61_n1, q61_n2, q61_n3, q61_n4, q61_n5, _, q61_S, q61_1, q61_2, q61_3, q61_4, q61_5, q61_8, q61_9⟩ := openP_ref05Disk (x0 := (toR (keepR (fromR d0) d1.toNat) d0.2.2.2.2.2.1).1) (x1 := ((toR (keepR (fromR d0) d1.toNat) d0.2.2.2.2.2.1).2.1).1) (x2 := doneR (((toR (keepR (fromR d0) d1.toNat) d0.2.2.2.2.2.1).2.1).2.1) (x35.1, false, 0, (x35.2.2.2).take ((min d2 (((x35.2.2.2.length : Nat) : Int) - 1)).toNat))) (x3 := ((toR (keepR (fromR d0) d1.toNat) d0.2.2.2.2.2.1).2.1).2.2.1) (x4 := ((toR (keepR (fromR d0) d1.toNat) d0.2.2.2.2.2.1).2.1).2.2.2) (x5 := []) (x6 := (toR (keepR (fromR d0) d1.toNat) d0.2.2.2.2.2.1).2.2.2.1) (x7 := (toR (keepR (fromR d0) d1.toNat) d0.2.2.2.2.2.1).2.2.2.2.1) (x8 := (toR (keepR (fromR d0) d1.toNat) d0.2.2.2.2.2.1).2.2.2.2.2.1) (x9 := (toR (keepR (fromR d0) d1.toNat) d0.2.2.2.2.2.1).2.2.2.2.2.2) ho60
                have q61_r1 := Rd.room (q61_1.rd (mle_refl _))
                have q61_r2 := Rd.room (q61_2.rd (mle_refl _))
                have q61_r3 := Rd.room (q61_3.rd (mle_refl _))
                have q61_r4 := Rd.room (q61_4.rd (mle_refl _))
                have q61_r5 := Rd.room (q61_5.rd (mle_refl _))
                simp only [inK] at q61_8
                simp only [inK] at q61_9
                refine VO.inv _ (fun _ h => h.parts (i := 160) rfl q61_S [167, 162, 163, 164, 165, 166]) ?_
                refine VO.store (k := 1) (c' := [Value.bool ((toR (keepR (fromR d0) d1.toNat) d0.2.2.2.2.2.1).1), Value.slice q61_A1 ((((toR (keepR (fromR d0) d1.toNat) d0.2.2.2.2.2.1).2.1).1).length) (q61_c1), Value.slice q61_A2 ((doneR (((toR (keepR (fromR d0) d1.toNat) d0.2.2.2.2.2.1).2.1).2.1) (x35.1, false, 0, (x35.2.2.2).take ((min d2 (((x35.2.2.2.length : Nat) : Int) - 1)).toNat))).length) (q61_c2), Value.slice q61_A3 ((((toR (keepR (fromR d0) d1.toNat) d0.2.2.2.2.2.1).2.1).2.2.1).length) (q61_c3), Value.slice q61_A4 ((((toR (keepR (fromR d0) d1.toNat) d0.2.2.2.2.2.1).2.1).2.2.2).length) (q61_c4), Value.slice q61_A5 (([] : List Dref05Raw).length) (q61_c5), Value.bool ((toR (keepR (fromR d0) d1.toNat) d0.2.2.2.2.2.1).2.2.2.1), Value.bool false, Value.int .i64 ((toR (keepR (fromR d0) d1.toNat) d0.2.2.2.2.2.1).2.2.2.2.2.1), Value.int .i64 ((toR (keepR (fromR d0) d1.toNat) d0.2.2.2.2.2.1).2.2.2.2.2.2)]) 167 rfl rfl (.inr ⟨tk4, rfl⟩) rfl rfl rfl rfl rfl ?_
                refine VO.gather (l := [mone g0 (.cells [Value.bool ((toR (keepR (fromR d0) d1.toNat) d0.2.2.2.2.2.1).1), Value.slice q61_A1 ((((toR (keepR (fromR d0) d1.toNat) d0.2.2.2.2.2.1).2.1).1).length) (q61_c1), Value.slice q61_A2 ((doneR (((toR (keepR (fromR d0) d1.toNat) d0.2.2.2.2.2.1).2.1).2.1) (x35.1, false, 0, (x35.2.2.2).take ((min d2 (((x35.2.2.2.length : Nat) : Int) - 1)).toNat))).length) (q61_c2), Value.slice q61_A3 ((((toR (keepR (fromR d0) d1.toNat) d0.2.2.2.2.2.1).2.1).2.2.1).length) (q61_c3), Value.slice q61_A4 ((((toR (keepR (fromR d0) d1.toNat) d0.2.2.2.2.2.1).2.1).2.2.2).length) (q61_c4), Value.slice q61_A5 (([] : List Dref05Raw).length) (q61_c5), Value.bool ((toR (keepR (fromR d0) d1.toNat) d0.2.2.2.2.2.1).2.2.2.1), Value.bool false, Value.int .i64 ((toR (keepR (fromR d0) d1.toNat) d0.2.2.2.2.2.1).2.2.2.2.2.1), Value.int .i64 ((toR (keepR (fromR d0) d1.toNat) d0.2.2.2.2.2.1).2.2.2.2.2.2)].toArray q61_E (0, 0)), q61_n1, q61_n2, q61_n3, q61_n4, q61_n5]) 168 [167, 162, 163, 164, 165, 166] rfl (fun hg68 => ?_)
                have ho68 : Ow (.ptr Tref05Disk) (muns [mone g0 (.cells [Value.bool ((toR (keepR (fromR d0) d1.toNat) d0.2.2.2.2.2.1).1), Value.slice q61_A1 ((((toR (keepR (fromR d0) d1.toNat) d0.2.2.2.2.2.1).2.1).1).length) (q61_c1), Value.slice q61_A2 ((doneR (((toR (keepR (fromR d0) d1.toNat) d0.2.2.2.2.2.1).2.1).2.1) (x35.1, false, 0, (x35.2.2.2).take ((min d2 (((x35.2.2.2.length : Nat) : Int) - 1)).toNat))).length) (q61_c2), Value.slice q61_A3 ((((toR (keepR (fromR d0) d1.toNat) d0.2.2.2.2.2.1).2.1).2.2.1).length) (q61_c3), Value.slice q61_A4 ((((toR (keepR (fromR d0) d1.toNat) d0.2.2.2.2.2.1).2.1).2.2.2).length) (q61_c4), Value.slice q61_A5 (([] : List Dref05Raw).length) (q61_c5), Value.bool ((toR (keepR (fromR d0) d1.toNat) d0.2.2.2.2.2.1).2.2.2.1), Value.bool false, Value.int .i64 ((toR (keepR (fromR d0) d1.toNat) d0.2.2.2.2.2.1).2.2.2.2.2.1), Value.int .i64 ((toR (keepR (fromR d0) d1.toNat) d0.2.2.2.2.2.1).2.2.2.2.2.2)].toArray q61_E (0, 0)), q61_n1, q61_n2, q61_n3, q61_n4, q61_n5]) [.pointer (some ⟨g0, 0, none⟩)] (g0, ((toR (keepR (fromR d0) d1.toNat) d0.2.2.2.2.2.1).1, (((toR (keepR (fromR d0) d1.toNat) d0.2.2.2.2.2.1).2.1).1, doneR (((toR (keepR (fromR d0) d1.toNat) d0.2.2.2.2.2.1).2.1).2.1) (x35.1, false, 0, (x35.2.2.2).take ((min d2 (((x35.2.2.2.length : Nat) : Int) - 1)).toNat)), ((toR (keepR (fromR d0) d1.toNat) d0.2.2.2.2.2.1).2.1).2.2), [], (toR (keepR (fromR d0) d1.toNat) d0.2.2.2.2.2.1).2.2.2.1, false, (toR (keepR (fromR d0) d1.toNat) d0.2.2.2.2.2.1).2.2.2.2.2)) := (mkP_ref05Disk ((toR (keepR (fromR d0) d1.toNat) d0.2.2.2.2.2.1).1) (((toR (keepR (fromR d0) d1.toNat) d0.2.2.2.2.2.1).2.1).1) (doneR (((toR (keepR (fromR d0) d1.toNat) d0.2.2.2.2.2.1).2.1).2.1) (x35.1, false, 0, (x35.2.2.2).take ((min d2 (((x35.2.2.2.length : Nat) : Int) - 1)).toNat))) (((toR (keepR (fromR d0) d1.toNat) d0.2.2.2.2.2.1).2.1).2.2.1) (((toR (keepR (fromR d0) d1.toNat) d0.2.2.2.2.2.1).2.1).2.2.2) [] ((toR (keepR (fromR d0) d1.toNat) d0.2.2.2.2.2.1).2.2.2.1) false ((toR (keepR (fromR d0) d1.toNat) d0.2.2.2.2.2.1).2.2.2.2.2.1) ((toR (keepR (fromR d0) d1.toNat) d0.2.2.2.2.2.1).2.2.2.2.2.2) hg68 (OwnL.ow (Ow.ownl q61_1 rfl mnil) rfl) (OwnL.ow (Ow.ownl q61_2 rfl mnil) rfl) (OwnL.ow (Ow.ownl q61_3 rfl mnil) rfl) (OwnL.ow (Ow.ownl q61_4 rfl mnil) rfl) q61_5 (by simp only [inK]; (exact fin3_rStart_ok)) (by simp only [inK]; (exact fin3_rStart_ok)))
                refine VO.k9 0 1 2 6 7 8 10 22 43 ?_
                refine VC.rs ?_
                refine VO.mv ?_
                refine VO.y rfl (.nilp rfl) ?_
                refine VO.y rfl (.fa rfl tst68 rfl) ?_
                obtain ⟨q69_E, q69_A1, q69_c1, q69_A2, q69_c2, q69_A3, q69_c3, q69_A4, q69_c4, q69_A5, q69_c5, q69_n1, q69_n2, q69_n3, q69_n4, q69_n5, _, q69_S, q69_1, q69_2, q69_3, q69_4, q69_5, q69_8, q69_9⟩ := openP_ref05Disk (x0 := (toR (keepR (fromR d0) d1.toNat) d0.2.2.2.2.2.1).1) (x1 := ((toR (keepR (fromR d0) d1.toNat) d0.2.2.2.2.2.1).2.1).1) (x2 := doneR (((toR (keepR (fromR d0) d1.toNat) d0.2.2.2.2.2.1).2.1).2.1) (x35.1, false, 0, (x35.2.2.2).take ((min d2 (((x35.2.2.2.length : Nat) : Int) - 1)).toNat))) (x3 := ((toR (keepR (fromR d0) d1.toNat) d0.2.2.2.2.2.1).2.1).2.2.1) (x4 := ((toR (keepR (fromR d0) d1.toNat) d0.2.2.2.2.2.1).2.1).2.2.2) (x5 := []) (x6 := (toR (keepR (fromR d0) d1.toNat) d0.2.2.2.2.2.1).2.2.2.1) (x7 := false) (x8 := (toR (keepR (fromR d0) d1.toNat) d0.2.2.2.2.2.1).2.2.2.2.2.1) (x9 := (toR (keepR (fromR d0) d1.toNat) d0.2.2.2.2.2.1).2.2.2.2.2.2) ho68
                have q69_r1 := Rd.room (q69_1.rd (mle_refl _))
                have q69_r2 := Rd.room (q69_2.rd (mle_refl _))
                have q69_r3 := Rd.room (q69_3.rd (mle_refl _))
                have q69_r4 := Rd.room (q69_4.rd (mle_refl _))
                have q69_r5 := Rd.room (q69_5.rd (mle_refl _))
                simp only [inK] at q69_8
                simp only [inK] at q69_9
                refine VO.inv _ (fun _ h => h.parts (i := 168) rfl q69_S [175, 170, 171, 172, 173, 174]) ?_
                refine VO.store (k := 1) (c' := [Value.bool ((toR (keepR (fromR d0) d1.toNat) d0.2.2.2.2.2.1).1), Value.slice q69_A1 ((((toR (keepR (fromR d0) d1.toNat) d0.2.2.2.2.2.1).2.1).1).length) (q69_c1), Value.slice q69_A2 ((doneR (((toR (keepR (fromR d0) d1.toNat) d0.2.2.2.2.2.1).2.1).2.1) (x35.1, false, 0, (x35.2.2.2).take ((min d2 (((x35.2.2.2.length : Nat) : Int) - 1)).toNat))).length) (q69_c2), Value.slice q69_A3 ((((toR (keepR (fromR d0) d1.toNat) d0.2.2.2.2.2.1).2.1).2.2.1).length) (q69_c3), Value.slice q69_A4 ((((toR (keepR (fromR d0) d1.toNat) d0.2.2.2.2.2.1).2.1).2.2.2).length) (q69_c4), Value.slice q69_A5 (([] : List Dref05Raw).length) (q69_c5), Value.bool true, Value.bool false, Value.int .i64 ((toR (keepR (fromR d0) d1.toNat) d0.2.2.2.2.2.1).2.2.2.2.2.1), Value.int .i64 ((toR (keepR (fromR d0) d1.toNat) d0.2.2.2.2.2.1).2.2.2.2.2.2)]) 175 rfl rfl (.inr ⟨tk4, rfl⟩) rfl rfl rfl rfl rfl ?_
                refine VO.gather (l := [mone g0 (.cells [Value.bool ((toR (keepR (fromR d0) d1.toNat) d0.2.2.2.2.2.1).1), Value.slice q69_A1 ((((toR (keepR (fromR d0) d1.toNat) d0.2.2.2.2.2.1).2.1).1).length) (q69_c1), Value.slice q69_A2 ((doneR (((toR (keepR (fromR d0) d1.toNat) d0.2.2.2.2.2.1).2.1).2.1) (x35.1, false, 0, (x35.2.2.2).take ((min d2 (((x35.2.2.2.length : Nat) : Int) - 1)).toNat))).length) (q69_c2), Value.slice q69_A3 ((((toR (keepR (fromR d0) d1.toNat) d0.2.2.2.2.2.1).2.1).2.2.1).length) (q69_c3), Value.slice q69_A4 ((((toR (keepR (fromR d0) d1.toNat) d0.2.2.2.2.2.1).2.1).2.2.2).length) (q69_c4), Value.slice q69_A5 (([] : List Dref05Raw).length) (q69_c5), Value.bool true, Value.bool false, Value.int .i64 ((toR (keepR (fromR d0) d1.toNat) d0.2.2.2.2.2.1).2.2.2.2.2.1), Value.int .i64 ((toR (keepR (fromR d0) d1.toNat) d0.2.2.2.2.2.1).2.2.2.2.2.2)].toArray q69_E (0, 0)), q69_n1, q69_n2, q69_n3, q69_n4, q69_n5]) 176 [175, 170, 171, 172, 173, 174] rfl (fun hg76 => ?_)
                have ho76 : Ow (.ptr Tref05Disk) (muns [mone g0 (.cells [Value.bool ((toR (keepR (fromR d0) d1.toNat) d0.2.2.2.2.2.1).1), Value.slice q69_A1 ((((toR (keepR (fromR d0) d1.toNat) d0.2.2.2.2.2.1).2.1).1).length) (q69_c1), Value.slice q69_A2 ((doneR (((toR (keepR (fromR d0) d1.toNat) d0.2.2.2.2.2.1).2.1).2.1) (x35.1, false, 0, (x35.2.2.2).take ((min d2 (((x35.2.2.2.length : Nat) : Int) - 1)).toNat))).length) (q69_c2), Value.slice q69_A3 ((((toR (keepR (fromR d0) d1.toNat) d0.2.2.2.2.2.1).2.1).2.2.1).length) (q69_c3), Value.slice q69_A4 ((((toR (keepR (fromR d0) d1.toNat) d0.2.2.2.2.2.1).2.1).2.2.2).length) (q69_c4), Value.slice q69_A5 (([] : List Dref05Raw).length) (q69_c5), Value.bool true, Value.bool false, Value.int .i64 ((toR (keepR (fromR d0) d1.toNat) d0.2.2.2.2.2.1).2.2.2.2.2.1), Value.int .i64 ((toR (keepR (fromR d0) d1.toNat) d0.2.2.2.2.2.1).2.2.2.2.2.2)].toArray q69_E (0, 0)), q69_n1, q69_n2, q69_n3, q69_n4, q69_n5]) [.pointer (some ⟨g0, 0, none⟩)] (g0, ((toR (keepR (fromR d0) d1.toNat) d0.2.2.2.2.2.1).1, (((toR (keepR (fromR d0) d1.toNat) d0.2.2.2.2.2.1).2.1).1, doneR (((toR (keepR (fromR d0) d1.toNat) d0.2.2.2.2.2.1).2.1).2.1) (x35.1, false, 0, (x35.2.2.2).take ((min d2 (((x35.2.2.2.length : Nat) : Int) - 1)).toNat)), ((toR (keepR (fromR d0) d1.toNat) d0.2.2.2.2.2.1).2.1).2.2), [], true, false, (toR (keepR (fromR d0) d1.toNat) d0.2.2.2.2.2.1).2.2.2.2.2)) := (mkP_ref05Disk ((toR (keepR (fromR d0) d1.toNat) d0.2.2.2.2.2.1).1) (((toR (keepR (fromR d0) d1.toNat) d0.2.2.2.2.2.1).2.1).1) (doneR (((toR (keepR (fromR d0) d1.toNat) d0.2.2.2.2.2.1).2.1).2.1) (x35.1, false, 0, (x35.2.2.2).take ((min d2 (((x35.2.2.2.length : Nat) : Int) - 1)).toNat))) (((toR (keepR (fromR d0) d1.toNat) d0.2.2.2.2.2.1).2.1).2.2.1) (((toR (keepR (fromR d0) d1.toNat) d0.2.2.2.2.2.1).2.1).2.2.2) [] true false ((toR (keepR (fromR d0) d1.toNat) d0.2.2.2.2.2.1).2.2.2.2.2.1) ((toR (keepR (fromR d0) d1.toNat) d0.2.2.2.2.2.1).2.2.2.2.2.2) hg76 (OwnL.ow (Ow.ownl q69_1 rfl mnil) rfl) (OwnL.ow (Ow.ownl q69_2 rfl mnil) rfl) (OwnL.ow (Ow.ownl q69_3 rfl mnil) rfl) (OwnL.ow (Ow.ownl q69_4 rfl mnil) rfl) q69_5 (by simp only [inK]; (exact fin3_rStart_ok)) (by simp only [inK]; (exact fin3_rStart_ok)))
                refine VO.k9 0 1 2 6 7 8 10 22 43 ?_
                refine VC.rs ?_
                refine VO.as ?_
                refine VO.keep [176, 137, 133, 0] [(176, muns [mone g0 (.cells [Value.bool ((toR (keepR (fromR d0) d1.toNat) d0.2.2.2.2.2.1).1), Value.slice q69_A1 ((((toR (keepR (fromR d0) d1.toNat) d0.2.2.2.2.2.1).2.1).1).length) (q69_c1), Value.slice q69_A2 ((doneR (((toR (keepR (fromR d0) d1.toNat) d0.2.2.2.2.2.1).2.1).2.1) (x35.1, false, 0, (x35.2.2.2).take ((min d2 (((x35.2.2.2.length : Nat) : Int) - 1)).toNat))).length) (q69_c2), Value.slice q69_A3 ((((toR (keepR (fromR d0) d1.toNat) d0.2.2.2.2.2.1).2.1).2.2.1).length) (q69_c3), Value.slice q69_A4 ((((toR (keepR (fromR d0) d1.toNat) d0.2.2.2.2.2.1).2.1).2.2.2).length) (q69_c4), Value.slice q69_A5 (([] : List Dref05Raw).length) (q69_c5), Value.bool true, Value.bool false, Value.int .i64 ((toR (keepR (fromR d0) d1.toNat) d0.2.2.2.2.2.1).2.2.2.2.2.1), Value.int .i64 ((toR (keepR (fromR d0) d1.toNat) d0.2.2.2.2.2.1).2.2.2.2.2.2)].toArray q69_E (0, 0)), q69_n1, q69_n2, q69_n3, q69_n4, q69_n5]), (137, mone g36 (.cells [Value.int .i64 (x35.1), Value.bool x35.2.1, Value.int .i64 (x35.2.2.1), Value.slice q35_A3 (x35.2.2.2.length) (q35_c3)].toArray 70 (0, 0))), (133, q28_n5), (0, mout (wm W) (m0))] (by kernel_rfl) ?_
                refine VO.k9 0 1 2 6 7 8 10 22 43 ?_
                refine VC.ret ?_
                refine ⟨_, _, res_run (rs := [.tmp 6]) rfl (.tmp rfl .nil), fun W_ hI => out_of (l := [muns [mone g0 (.cells [Value.bool ((toR (keepR (fromR d0) d1.toNat) d0.2.2.2.2.2.1).1), Value.slice q69_A1 ((((toR (keepR (fromR d0) d1.toNat) d0.2.2.2.2.2.1).2.1).1).length) (q69_c1), Value.slice q69_A2 ((doneR (((toR (keepR (fromR d0) d1.toNat) d0.2.2.2.2.2.1).2.1).2.1) (x35.1, false, 0, (x35.2.2.2).take ((min d2 (((x35.2.2.2.length : Nat) : Int) - 1)).toNat))).length) (q69_c2), Value.slice q69_A3 ((((toR (keepR (fromR d0) d1.toNat) d0.2.2.2.2.2.1).2.1).2.2.1).length) (q69_c3), Value.slice q69_A4 ((((toR (keepR (fromR d0) d1.toNat) d0.2.2.2.2.2.1).2.1).2.2.2).length) (q69_c4), Value.slice q69_A5 (([] : List Dref05Raw).length) (q69_c5), Value.bool true, Value.bool false, Value.int .i64 ((toR (keepR (fromR d0) d1.toNat) d0.2.2.2.2.2.1).2.2.2.2.2.1), Value.int .i64 ((toR (keepR (fromR d0) d1.toNat) d0.2.2.2.2.2.1).2.2.2.2.2.2)].toArray q69_E (0, 0)), q69_n1, q69_n2, q69_n3, q69_n4, q69_n5]]) hI [176] rfl rfl (mle_refl _) (fun hS_ => ?_)⟩
                dsimp only [packV]
                have hm0_ : (toR (dStart (fromR d0) d1 d2).1 d0.2.2.2.2.2.1 : Dref05Disk) = ((toR (keepR (fromR d0) d1.toNat) d0.2.2.2.2.2.1).1, (((toR (keepR (fromR d0) d1.toNat) d0.2.2.2.2.2.1).2.1).1, doneR (((toR (keepR (fromR d0) d1.toNat) d0.2.2.2.2.2.1).2.1).2.1) (x35.1, false, 0, (x35.2.2.2).take ((min d2 (((x35.2.2.2.length : Nat) : Int) - 1)).toNat)), ((toR (keepR (fromR d0) d1.toNat) d0.2.2.2.2.2.1).2.1).2.2), [], true, false, (toR (keepR (fromR d0) d1.toNat) d0.2.2.2.2.2.1).2.2.2.2.2) := by first | rfl | (exact fin0_rStart_ok)
                refine ⟨?_, ?_⟩
                rotate_left
                · rw [hm0_]; exact (Ow.up ho76 (hS_.1 _ (.head _)))
                all_goals (first | rfl | (exact fin1_rStart_ok))
              · -- FFFFTT2
                refine VD.y rfl rfl (.inl rfl) (.ixa (i := 2) (o := 3) rfl rfl tar28 hi38 rfl rfl) ?_
                refine VD.y rfl rfl (.inl rfl) (.ld1 134 rfl tk27 rfl (cellsAt_one rfl rfl)) ?_
                refine VD.y rfl rfl (.inl rfl) (.fa rfl tst70 rfl) ?_
                refine VD.y rfl rfl (.inl rfl) (.ld1 137 rfl tk3 rfl (cellsAt_one rfl rfl)) ?_
                refine VD.y rfl rfl (.inl rfl) (.fa rfl tst70 rfl) ?_
                refine VD.y rfl rfl (.inl rfl) (.ld1 137 rfl tk27 rfl (cellsAt_one rfl rfl)) ?_
                refine VD.y rfl rfl (.inl rfl) (.mv rfl) ?_
                have hs77 := q35_3.pre (j := ((min d2 (((x35.2.2.2.length : Nat) : Int) - 1)).toNat)) (by exact fin3_rStart_ok)
                refine VD.y rfl rfl (.inl rfl) (.slHI ((min d2 (((x35.2.2.2.length : Nat) : Int) - 1)).toNat) rfl rfl tsl27 (by exact fin3_rStart_ok) (by exact fin3_rStart_ok)) ?_
                refine VD.y rfl rfl (.inl rfl) (.bst (cs := [Value.int .i64 (x35.1), Value.bool false, Value.int .i64 (0), Value.slice q35_A3 ((min d2 (((x35.2.2.2.length : Nat) : Int) - 1)).toNat) (q35_c3)]) rfl tst70 tz70 rfl) ?_
                refine VD.y rfl rfl (.inl rfl) (.nilp rfl) ?_
                refine VD.y rfl rfl (.inl rfl) (.fa rfl tst68 rfl) ?_
                refine VD.callN 178 rfl rfl (.inl rfl) fnOk59 rfl (fun _ h => h.sub [137, 134, 129, 130, 131, 132, 133, 0]) (fun W hW => rWith_ok W (OwnL.rd (Ow.ownl q28_3 rfl mnil) (hW.at (i := 131) rfl) (mle_nil _)) (mk_ref05Raw (m := wm W) x35.1 false 0 ((x35.2.2.2).take ((min d2 (((x35.2.2.2.length : Nat) : Int) - 1)).toNat)) (by simp only [inK]; (exact fin3_rStart_ok)) (by simp only [inK]; (exact fin3_rStart_ok)) (Rd.mono hs77 (hW.at (i := 133) rfl))) (by intro h_; cases h_) (by (have h_ := ‹_[d1.toNat]? = some _›; rw [rkeep_wait] at h_; have h2_ := (rstart_good e0 h_).2.2; first | (rw [getF0 ‹_ = (0 : Int)›] at h2_; exact room_le h2_ (by omega)) | (rw [getF1 ‹_ = (1 : Int)›] at h2_; exact room_le h2_ (by omega)) | (rw [getF2 ‹_ = (2 : Int)›] at h2_; exact room_le h2_ (by omega)) | (rw [getF3 ‹_ = (3 : Int)›] at h2_; exact room_le h2_ (by omega))))) (fun v78 m78 hv78 => ?_)
                try dsimp only at hv78
                obtain ⟨s78_0, rfl, f78_0⟩ := hv78
                obtain ⟨A78_0, c78_0, eq78_0, l78_0, k78_0⟩ := f78_0.slice
                subst eq78_0
                simp only [maxLen] at k78_0
                refine VD.nil rfl ?_ rfl
                refine VO.y rfl (.ixa (i := 2) (o := 3) rfl rfl tar28 hi38 rfl rfl) ?_
                refine VO.store (k := 1) (c' := [Value.bool ((toR (keepR (fromR d0) d1.toNat) d0.2.2.2.2.2.1).1), Value.slice q28_A1 ((((toR (keepR (fromR d0) d1.toNat) d0.2.2.2.2.2.1).2.1).1).length) (q28_c1), Value.slice q28_A2 ((((toR (keepR (fromR d0) d1.toNat) d0.2.2.2.2.2.1).2.1).2.1).length) (q28_c2), Value.slice A78_0 ((doneR (((toR (keepR (fromR d0) d1.toNat) d0.2.2.2.2.2.1).2.1).2.2.1) (x35.1, false, 0, (x35.2.2.2).take ((min d2 (((x35.2.2.2.length : Nat) : Int) - 1)).toNat))).length) (c78_0), Value.slice q28_A4 ((((toR (keepR (fromR d0) d1.toNat) d0.2.2.2.2.2.1).2.1).2.2.2).length) (q28_c4), Value.slice (some ⟨gg35, oo35, none⟩) (((toR (keepR (fromR d0) d1.toNat) d0.2.2.2.2.2.1).2.2.1).length) (q28_c5), Value.bool ((toR (keepR (fromR d0) d1.toNat) d0.2.2.2.2.2.1).2.2.2.1), Value.bool ((toR (keepR (fromR d0) d1.toNat) d0.2.2.2.2.2.1).2.2.2.2.1), Value.int .i64 ((toR (keepR (fromR d0) d1.toNat) d0.2.2.2.2.2.1).2.2.2.2.2.1), Value.int .i64 ((toR (keepR (fromR d0) d1.toNat) d0.2.2.2.2.2.1).2.2.2.2.2.2)]) 134 rfl rfl (.inr ⟨tk27, rfl⟩) rfl rfl rfl rfl rfl ?_
                refine VO.k9 0 1 2 6 7 8 10 22 43 ?_
                refine outN ?_
                refine VC.rs ?_
                refine VO.mv ?_
                refine VO.y rfl (.nilp rfl) ?_
                refine VO.y rfl (.fa rfl tst68 rfl) ?_
                refine VO.store (k := 1) (c' := [Value.bool ((toR (keepR (fromR d0) d1.toNat) d0.2.2.2.2.2.1).1), Value.slice q28_A1 ((((toR (keepR (fromR d0) d1.toNat) d0.2.2.2.2.2.1).2.1).1).length) (q28_c1), Value.slice q28_A2 ((((toR (keepR (fromR d0) d1.toNat) d0.2.2.2.2.2.1).2.1).2.1).length) (q28_c2), Value.slice A78_0 ((doneR (((toR (keepR (fromR d0) d1.toNat) d0.2.2.2.2.2.1).2.1).2.2.1) (x35.1, false, 0, (x35.2.2.2).take ((min d2 (((x35.2.2.2.length : Nat) : Int) - 1)).toNat))).length) (c78_0), Value.slice q28_A4 ((((toR (keepR (fromR d0) d1.toNat) d0.2.2.2.2.2.1).2.1).2.2.2).length) (q28_c4), Value.slice none (0) (0), Value.bool ((toR (keepR (fromR d0) d1.toNat) d0.2.2.2.2.2.1).2.2.2.1), Value.bool ((toR (keepR (fromR d0) d1.toNat) d0.2.2.2.2.2.1).2.2.2.2.1), Value.int .i64 ((toR (keepR (fromR d0) d1.toNat) d0.2.2.2.2.2.1).2.2.2.2.2.1), Value.int .i64 ((toR (keepR (fromR d0) d1.toNat) d0.2.2.2.2.2.1).2.2.2.2.2.2)]) 134 rfl rfl (.inr ⟨tk66, rfl⟩) rfl rfl rfl rfl rfl ?_
                refine VO.gather (l := [mone g0 (.cells [Value.bool ((toR (keepR (fromR d0) d1.toNat) d0.2.2.2.2.2.1).1), Value.slice q28_A1 ((((toR (keepR (fromR d0) d1.toNat) d0.2.2.2.2.2.1).2.1).1).length) (q28_c1), Value.slice q28_A2 ((((toR (keepR (fromR d0) d1.toNat) d0.2.2.2.2.2.1).2.1).2.1).length) (q28_c2), Value.slice A78_0 ((doneR (((toR (keepR (fromR d0) d1.toNat) d0.2.2.2.2.2.1).2.1).2.2.1) (x35.1, false, 0, (x35.2.2.2).take ((min d2 (((x35.2.2.2.length : Nat) : Int) - 1)).toNat))).length) (c78_0), Value.slice q28_A4 ((((toR (keepR (fromR d0) d1.toNat) d0.2.2.2.2.2.1).2.1).2.2.2).length) (q28_c4), Value.slice none (0) (0), Value.bool ((toR (keepR (fromR d0) d1.toNat) d0.2.2.2.2.2.1).2.2.2.1), Value.bool ((toR (keepR (fromR d0) d1.toNat) d0.2.2.2.2.2.1).2.2.2.2.1), Value.int .i64 ((toR (keepR (fromR d0) d1.toNat) d0.2.2.2.2.2.1).2.2.2.2.2.1), Value.int .i64 ((toR (keepR (fromR d0) d1.toNat) d0.2.2.2.2.2.1).2.2.2.2.2.2)].toArray q28_E (0, 0)), q28_n1, q28_n2, m78, q28_n4]) 179 [134, 129, 130, 178, 132] rfl (fun hg79 => ?_)
                have ho79 : Ow (.ptr Tref05Disk) (muns [mone g0 (.cells [Value.bool ((toR (keepR (fromR d0) d1.toNat) d0.2.2.2.2.2.1).1), Value.slice q28_A1 ((((toR (keepR (fromR d0) d1.toNat) d0.2.2.2.2.2.1).2.1).1).length) (q28_c1), Value.slice q28_A2 ((((toR (keepR (fromR d0) d1.toNat) d0.2.2.2.2.2.1).2.1).2.1).length) (q28_c2), Value.slice A78_0 ((doneR (((toR (keepR (fromR d0) d1.toNat) d0.2.2.2.2.2.1).2.1).2.2.1) (x35.1, false, 0, (x35.2.2.2).take ((min d2 (((x35.2.2.2.length : Nat) : Int) - 1)).toNat))).length) (c78_0), Value.slice q28_A4 ((((toR (keepR (fromR d0) d1.toNat) d0.2.2.2.2.2.1).2.1).2.2.2).length) (q28_c4), Value.slice none (0) (0), Value.bool ((toR (keepR (fromR d0) d1.toNat) d0.2.2.2.2.2.1).2.2.2.1), Value.bool ((toR (keepR (fromR d0) d1.toNat) d0.2.2.2.2.2.1).2.2.2.2.1), Value.int .i64 ((toR (keepR (fromR d0) d1.toNat) d0.2.2.2.2.2.1).2.2.2.2.2.1), Value.int .i64 ((toR (keepR (fromR d0) d1.toNat) d0.2.2.2.2.2.1).2.2.2.2.2.2)].toArray q28_E (0, 0)), q28_n1, q28_n2, m78, q28_n4]) [.pointer (some ⟨g0, 0, none⟩)] (g0, ((toR (keepR (fromR d0) d1.toNat) d0.2.2.2.2.2.1).1, (((toR (keepR (fromR d0) d1.toNat) d0.2.2.2.2.2.1).2.1).1, ((toR (keepR (fromR d0) d1.toNat) d0.2.2.2.2.2.1).2.1).2.1, doneR (((toR (keepR (fromR d0) d1.toNat) d0.2.2.2.2.2.1).2.1).2.2.1) (x35.1, false, 0, (x35.2.2.2).take ((min d2 (((x35.2.2.2.length : Nat) : Int) - 1)).toNat)), ((toR (keepR (fromR d0) d1.toNat) d0.2.2.2.2.2.1).2.1).2.2.2), [], (toR (keepR (fromR d0) d1.toNat) d0.2.2.2.2.2.1).2.2.2)) := (mkP_ref05Disk ((toR (keepR (fromR d0) d1.toNat) d0.2.2.2.2.2.1).1) (((toR (keepR (fromR d0) d1.toNat) d0.2.2.2.2.2.1).2.1).1) (((toR (keepR (fromR d0) d1.toNat) d0.2.2.2.2.2.1).2.1).2.1) (doneR (((toR (keepR (fromR d0) d1.toNat) d0.2.2.2.2.2.1).2.1).2.2.1) (x35.1, false, 0, (x35.2.2.2).take ((min d2 (((x35.2.2.2.length : Nat) : Int) - 1)).toNat))) (((toR (keepR (fromR d0) d1.toNat) d0.2.2.2.2.2.1).2.1).2.2.2) [] ((toR (keepR (fromR d0) d1.toNat) d0.2.2.2.2.2.1).2.2.2.1) ((toR (keepR (fromR d0) d1.toNat) d0.2.2.2.2.2.1).2.2.2.2.1) ((toR (keepR (fromR d0) d1.toNat) d0.2.2.2.2.2.1).2.2.2.2.2.1) ((toR (keepR (fromR d0) d1.toNat) d0.2.2.2.2.2.1).2.2.2.2.2.2) (Seps.nilAt 5 hg79) (OwnL.ow (Ow.ownl q28_1 rfl mnil) rfl) (OwnL.ow (Ow.ownl q28_2 rfl mnil) rfl) (OwnL.ow (Ow.ownl f78_0 rfl mnil) rfl) (OwnL.ow (Ow.ownl q28_4 rfl mnil) rfl) (Ow.nil _ _) (by simp only [inK]; (exact fin3_rStart_ok)) (by simp only [inK]; (exact fin3_rStart_ok)))
                refine VO.keep [179, 137, 133, 0] [(179, muns [mone g0 (.cells [Value.bool ((toR (keepR (fromR d0) d1.toNat) d0.2.2.2.2.2.1).1), Value.slice q28_A1 ((((toR (keepR (fromR d0) d1.toNat) d0.2.2.2.2.2.1).2.1).1).length) (q28_c1), Value.slice q28_A2 ((((toR (keepR (fromR d0) d1.toNat) d0.2.2.2.2.2.1).2.1).2.1).length) (q28_c2), Value.slice A78_0 ((doneR (((toR (keepR (fromR d0) d1.toNat) d0.2.2.2.2.2.1).2.1).2.2.1) (x35.1, false, 0, (x35.2.2.2).take ((min d2 (((x35.2.2.2.length : Nat) : Int) - 1)).toNat))).length) (c78_0), Value.slice q28_A4 ((((toR (keepR (fromR d0) d1.toNat) d0.2.2.2.2.2.1).2.1).2.2.2).length) (q28_c4), Value.slice none (0) (0), Value.bool ((toR (keepR (fromR d0) d1.toNat) d0.2.2.2.2.2.1).2.2.2.1), Value.bool ((toR (keepR (fromR d0) d1.toNat) d0.2.2.2.2.2.1).2.2.2.2.1), Value.int .i64 ((toR (keepR (fromR d0) d1.toNat) d0.2.2.2.2.2.1).2.2.2.2.2.1), Value.int .i64 ((toR (keepR (fromR d0) d1.toNat) d0.2.2.2.2.2.1).2.2.2.2.2.2)].toArray q28_E (0, 0)), q28_n1, q28_n2, m78, q28_n4]), (137, mone g36 (.cells [Value.int .i64 (x35.1), Value.bool x35.2.1, Value.int .i64 (x35.2.2.1), Value.slice q35_A3 (x35.2.2.2.length) (q35_c3)].toArray 70 (0, 0))), (133, q28_n5), (0, mout (wm W) (m0))] (by kernel_rfl) ?_
                refine VO.k9 0 1 2 6 7 8 10 22 43 ?_
                refine VC.rs ?_
                refine VO.mv ?_
                refine VO.y rfl (.nilp rfl) ?_
                refine VO.y rfl (.fa rfl tst68 rfl) ?_
                obtain ⟨q80_E, q80_A1, q80_c1, q80_A2, q80_c2, q80_A3, q80_c3, q80_A4, q80_c4, q80_A5, q80_c5, q80_n1, q80_n2, q80_n3, q80_n4, q80_n5, _, q80_S, q80_1, q80_2, q80_3, q80_4, q80_5, q80_8, q80_9⟩ := openP_ref05Disk (x0 := (toR (keepR (fromR d0) d1.toNat) d0.2.2.2.2.2.1).1) (x1 := ((toR (keepR (fromR d0) d1.toNat) d0.2.2.2.2.2.1).2.1).1) (x2 := ((toR (keepR (fromR d0) d1.toNat) d0.2.2.2.2.2.1).2.1).2.1) (x3 := doneR (((toR (keepR (fromR d0) d1.toNat) d0.2.2.2.2.2.1).2.1).2.2.1) (x35.1, false, 0, (x35.2.2.2).take ((min d2 (((x35.2.2.2.length : Nat) : Int) - 1)).toNat))) (x4 := ((toR (keepR (fromR d0) d1.toNat) d0.2.2.2.2.2.1).2.1).2.2.2) (x5 := []) (x6 := (toR (keepR (fromR d0) d1.toNat) d0.2.2.2.2.2.1).2.2.2.1) (x7 := (toR (keepR (fromR d0) d1.toNat) d0.2.2.2.2.2.1).2.2.2.2.1) (x8 := (toR (keepR (fromR d0) d1.toNat) d0.2.2.2.2.2.1).2.2.2.2.2.1) (x9 := (toR (keepR (fromR d0) d1.toNat) d0.2.2.2.2.2.1).2.2.2.2.2.2) ho79
                have q80_r1 := Rd.room (q80_1.rd (mle_refl _))
                have q80_r2 := Rd.room (q80_2.rd (mle_refl _))
                have q80_r3 := Rd.room (q80_3.rd (mle_refl _))
                have q80_r4 := Rd.room (q80_4.rd (mle_refl _))
                have q80_r5 := Rd.room (q80_5.rd (mle_refl _))
                simp only [inK] at q80_8
                simp only [inK] at q80_9
                refine VO.inv _ (fun _ h => h.parts (i := 179) rfl q80_S [186, 181, 182, 183, 184, 185]) ?_
                refine VO.store (k := 1) (c' := [Value.bool ((toR (keepR (fromR d0) d1.toNat) d0.2.2.2.2.2.1).1), Value.slice q80_A1 ((((toR (keepR (fromR d0) d1.toNat) d0.2.2.2.2.2.1).2.1).1).length) (q80_c1), Value.slice q80_A2 ((((toR (keepR (fromR d0) d1.toNat) d0.2.2.2.2.2.1).2.1).2.1).length) (q80_c2), Value.slice q80_A3 ((doneR (((toR (keepR (fromR d0) d1.toNat) d0.2.2.2.2.2.1).2.1).2.2.1) (x35.1, false, 0, (x35.2.2.2).take ((min d2 (((x35.2.2.2.length : Nat) : Int) - 1)).toNat))).length) (q80_c3), Value.slice q80_A4 ((((toR (keepR (fromR d0) d1.toNat) d0.2.2.2.2.2.1).2.1).2.2.2).length) (q80_c4), Value.slice q80_A5 (([] : List Dref05Raw).length) (q80_c5), Value.bool ((toR (keepR (fromR d0) d1.toNat) d0.2.2.2.2.2.1).2.2.2.1), Value.bool false, Value.int .i64 ((toR (keepR (fromR d0) d1.toNat) d0.2.2.2.2.2.1).2.2.2.2.2.1), Value.int .i64 ((toR (keepR (fromR d0) d1.toNat) d0.2.2.2.2.2.1).2.2.2.2.2.2)]) 186 rfl rfl (.inr ⟨tk4, rfl⟩) rfl rfl rfl rfl rfl ?_
                refine VO.gather (l := [mone g0 (.cells [Value.bool ((toR (keepR (fromR d0) d1.toNat) d0.2.2.2.2.2.1).1), Value.slice q80_A1 ((((toR (keepR (fromR d0) d1.toNat) d0.2.2.2.2.2.1).2.1).1).length) (q80_c1), Value.slice q80_A2 ((((toR (keepR (fromR d0) d1.toNat) d0.2.2.2.2.2.1).2.1).2.1).length) (q80_c2), Value.slice q80_A3 ((doneR (((toR (keepR (fromR d0) d1.toNat) d0.2.2.2.2.2.1).2.1).2.2.1) (x35.1, false, 0, (x35.2.2.2).take ((min d2 (((x35.2.2.2.length : Nat) : Int) - 1)).toNat))).length) (q80_c3), Value.slice q80_A4 ((((toR (keepR (fromR d0) d1.toNat) d0.2.2.2.2.2.1).2.1).2.2.2).length) (q80_c4), Value.slice q80_A5 (([] : List Dref05Raw).length) (q80_c5), Value.bool ((toR (keepR (fromR d0) d1.toNat) d0.2.2.2.2.2.1).2.2.2.1), Value.bool false, Value.int .i64 ((toR (keepR (fromR d0) d1.toNat) d0.2.2.2.2.2.1).2.2.2.2.2.1), Value.int .i64 ((toR (keepR (fromR d0) d1.toNat) d0.2.2.2.2.2.1).2.2.2.2.2.2)].toArray q80_E (0, 0)), q80_n1, q80_n2, q80_n3, q80_n4, q80_n5]) 187 [186, 181, 182, 183, 184, 185] rfl (fun hg87 => ?_)
                have ho87 : Ow (.ptr Tref05Disk) (muns [mone g0 (.cells [Value.bool ((toR (keepR (fromR d0) d1.toNat) d0.2.2.2.2.2.1).1), Value.slice q80_A1 ((((toR (keepR (fromR d0) d1.toNat) d0.2.2.2.2.2.1).2.1).1).length) (q80_c1), Value.slice q80_A2 ((((toR (keepR (fromR d0) d1.toNat) d0.2.2.2.2.2.1).2.1).2.1).length) (q80_c2), Value.slice q80_A3 ((doneR (((toR (keepR (fromR d0) d1.toNat) d0.2.2.2.2.2.1).2.1).2.2.1) (x35.1, false, 0, (x35.2.2.2).take ((min d2 (((x35.2.2.2.length : Nat) : Int) - 1)).toNat))).length) (q80_c3), Value.slice q80_A4 ((((toR (keepR (fromR d0) d1.toNat) d0.2.2.2.2.2.1).2.1).2.2.2).length) (q80_c4), Value.slice q80_A5 (([] : List Dref05Raw).length) (q80_c5), Value.bool ((toR (keepR (fromR d0) d1.toNat) d0.2.2.2.2.2.1).2.2.2.1), Value.bool false, Value.int .i64 ((toR (keepR (fromR d0) d1.toNat) d0.2.2.2.2.2.1).2.2.2.2.2.1), Value.int .i64 ((toR (keepR (fromR d0) d1.toNat) d0.2.2.2.2.2.1).2.2.2.2.2.2)].toArray q80_E (0, 0)), q80_n1, q80_n2, q80_n3, q80_n4, q80_n5]) [.pointer (some ⟨g0, 0, none⟩)] (g0, ((toR (keepR (fromR d0) d1.toNat) d0.2.2.2.2.2.1).1, (((toR (keepR (fromR d0) d1.toNat) d0.2.2.2.2.2.1).2.1).1, ((toR (keepR (fromR d0) d1.toNat) d0.2.2.2.2.2.1).2.1).2.1, doneR (((toR (keepR (fromR d0) d1.toNat) d0.2.2.2.2.2.1).2.1).2.2.1) (x35.1, false, 0, (x35.2.2.2).take ((min d2 (((x35.2.2.2.length : Nat) : Int) - 1)).toNat)), ((toR (keepR (fromR d0) d1.toNat) d0.2.2.2.2.2.1).2.1).2.2.2), [], (toR (keepR (fromR d0) d1.toNat) d0.2.2.2.2.2.1).2.2.2.1, false, (toR (keepR (fromR d0) d1.toNat) d0.2.2.2.2.2.1).2.2.2.2.2)) := (mkP_ref05Disk ((toR (keepR (fromR d0) d1.toNat) d0.2.2.2.2.2.1).1) (((toR (keepR (fromR d0) d1.toNat) d0.2.2.2.2.2.1).2.1).1) (((toR (keepR (fromR d0) d1.toNat) d0.2.2.2.2.2.1).2.1).2.1) (doneR (((toR (keepR (fromR d0) d1.toNat) d0.2.2.2.2.2.1).2.1).2.2.1) (x35.1, false, 0, (x35.2.2.2).take ((min d2 (((x35.2.2.2.length : Nat) : Int) - 1)).toNat))) (((toR (keepR (fromR d0) d1.toNat) d0.2.2.2.2.2.1).2.1).2.2.2) [] ((toR (keepR (fromR d0) d1.toNat) d0.2.2.2.2.2.1).2.2.2.1) false ((toR (keepR (fromR d0) d1.toNat) d0.2.2.2.2.2.1).2.2.2.2.2.1) ((toR (keepR (fromR d0) d1.toNat) d0.2.2.2.2.2.1).2.2.2.2.2.2) hg87 (OwnL.ow (Ow.ownl q80_1 rfl mnil) rfl) (OwnL.ow (Ow.ownl q80_2 rfl mnil) rfl) (OwnL.ow (Ow.ownl q80_3 rfl mnil) rfl) (OwnL.ow (Ow.ownl q80_4 rfl mnil) rfl) q80_5 (by simp only [inK]; (exact fin3_rStart_ok)) (by simp only [inK]; (exact fin3_rStart_ok)))
                refine VO.k9 0 1 2 6 7 8 10 22 43 ?_
                refine VC.rs ?_
                refine VO.mv ?_
                refine VO.y rfl (.nilp rfl) ?_
                refine VO.y rfl (.fa rfl tst68 rfl) ?_
                obtain ⟨q88_E, q88_A1, q88_c1, q88_A2, q88_c2, q88_A3, q88_c3, q88_A4, q88_c4, q88_A5, q88_c5, q88_n1, q88_n2, q88_n3, q88_n4, q88_n5, _, q88_S, q88_1, q88_2, q88_3, q88_4, q88_5, q88_8, q88_9⟩ := openP_ref05Disk (x0 := (toR (keepR (fromR d0) d1.toNat) d0.2.2.2.2.2.1).1) (x1 := ((toR (keepR (fromR d0) d1.toNat) d0.2.2.2.2.2.1).2.1).1) (x2 := ((toR (keepR (fromR d0) d1.toNat) d0.2.2.2.2.2.1).2.1).2.1) (x3 := doneR (((toR (keepR (fromR d0) d1.toNat) d0.2.2.2.2.2.1).2.1).2.2.1) (x35.1, false, 0, (x35.2.2.2).take ((min d2 (((x35.2.2.2.length : Nat) : Int) - 1)).toNat))) (x4 := ((toR (keepR (fromR d0) d1.toNat) d0.2.2.2.2.2.1).2.1).2.2.2) (x5 := []) (x6 := (toR (keepR (fromR d0) d1.toNat) d0.2.2.2.2.2.1).2.2.2.1) (x7 := false) (x8 := (toR (keepR (fromR d0) d1.toNat) d0.2.2.2.2.2.1).2.2.2.2.2.1) (x9 := (toR (keepR (fromR d0) d1.toNat) d0.2.2.2.2.2.1).2.2.2.2.2.2) ho87
                have q88_r1 := Rd.room (q88_1.rd (mle_refl _))
                have q88_r2 := Rd.room (q88_2.rd (mle_refl _))
                have q88_r3 := Rd.room (q88_3.rd (mle_refl _))
                have q88_r4 := Rd.room (q88_4.rd (mle_refl _))
                have q88_r5 := Rd.room (q88_5.rd (mle_refl _))
                simp only [inK] at q88_8
                simp only [inK] at q88_9
                refine VO.inv _ (fun _ h => h.parts (i := 187) rfl q88_S [194, 189, 190, 191, 192, 193]) ?_
                refine VO.store (k := 1) (c' := [Value.bool ((toR (keepR (fromR d0) d1.toNat) d0.2.2.2.2.2.1).1), Value.slice q88_A1 ((((toR (keepR (fromR d0) d1.toNat) d0.2.2.2.2.2.1).2.1).1).length) (q88_c1), Value.slice q88_A2 ((((toR (keepR (fromR d0) d1.toNat) d0.2.2.2.2.2.1).2.1).2.1).length) (q88_c2), Value.slice q88_A3 ((doneR (((toR (keepR (fromR d0) d1.toNat) d0.2.2.2.2.2.1).2.1).2.2.1) (x35.1, false, 0, (x35.2.2.2).take ((min d2 (((x35.2.2.2.length : Nat) : Int) - 1)).toNat))).length) (q88_c3), Value.slice q88_A4 ((((toR (keepR (fromR d0) d1.toNat) d0.2.2.2.2.2.1).2.1).2.2.2).length) (q88_c4), Value.slice q88_A5 (([] : List Dref05Raw).length) (q88_c5), Value.bool true, Value.bool false, Value.int .i64 ((toR (keepR (fromR d0) d1.toNat) d0.2.2.2.2.2.1).2.2.2.2.2.1), Value.int .i64 ((toR (keepR (fromR d0) d1.toNat) d0.2.2.2.2.2.1).2.2.2.2.2.2)]) 194 rfl rfl (.inr ⟨tk4, rfl⟩) rfl rfl rfl rfl rfl ?_
                refine VO.gather (l := [mone g0 (.cells [Value.bool ((toR (keepR (fromR d0) d1.toNat) d0.2.2.2.2.2.1).1), Value.slice q88_A1 ((((toR (keepR (fromR d0) d1.toNat) d0.2.2.2.2.2.1).2.1).1).length) (q88_c1), Value.slice q88_A2 ((((toR (keepR (fromR d0) d1.toNat) d0.2.2.2.2.2.1).2.1).2.1).length) (q88_c2), Value.slice q88_A3 ((doneR (((toR (keepR (fromR d0) d1.toNat) d0.2.2.2.2.2.1).2.1).2.2.1) (x35.1, false, 0, (x35.2.2.2).take ((min d2 (((x35.2.2.2.length : Nat) : Int) - 1)).toNat))).length) (q88_c3), Value.slice q88_A4 ((((toR (keepR (fromR d0) d1.toNat) d0.2.2.2.2.2.1).2.1).2.2.2).length) (q88_c4), Value.slice q88_A5 (([] : List Dref05Raw).length) (q88_c5), Value.bool true, Value.bool false, Value.int .i64 ((toR (keepR (fromR d0) d1.toNat) d0.2.2.2.2.2.1).2.2.2.2.2.1), Value.int .i64 ((toR (keepR (fromR d0) d1.toNat) d0.2.2.2.2.2.1).2.2.2.2.2.2)].toArray q88_E (0, 0)), q88_n1, q88_n2, q88_n3, q88_n4, q88_n5]) 195 [194, 189, 190, 191, 192, 193] rfl (fun hg95 => ?_)
                have ho95 : Ow (.ptr Tref05Disk) (muns [mone g0 (.cells [Value.bool ((toR (keepR (fromR d0) d1.toNat) d0.2.2.2.2.2.1).1), Value.slice q88_A1 ((((toR (keepR (fromR d0) d1.toNat) d0.2.2.2.2.2.1).2.1).1).length) (q88_c1), Value.slice q88_A2 ((((toR (keepR (fromR d0) d1.toNat) d0.2.2.2.2.2.1).2.1).2.1).length) (q88_c2), Value.slice q88_A3 ((doneR (((toR (keepR (fromR d0) d1.toNat) d0.2.2.2.2.2.1).2.1).2.2.1) (x35.1, false, 0, (x35.2.2.2).take ((min d2 (((x35.2.2.2.length : Nat) : Int) - 1)).toNat))).length) (q88_c3), Value.slice q88_A4 ((((toR (keepR (fromR d0) d1.toNat) d0.2.2.2.2.2.1).2.1).2.2.2).length) (q88_c4), Value.slice q88_A5 (([] : List Dref05Raw).length) (q88_c5), Value.bool true, Value.bool false, Value.int .i64 ((toR (keepR (fromR d0) d1.toNat) d0.2.2.2.2.2.1).2.2.2.2.2.1), Value.int .i64 ((toR (keepR (fromR d0) d1.toNat) d0.2.2.2.2.2.1).2.2.2.2.2.2)].toArray q88_E (0, 0)), q88_n1, q88_n2, q88_n3, q88_n4, q88_n5]) [.pointer (some ⟨g0, 0, none⟩)] (g0, ((toR (keepR (fromR d0) d1.toNat) d0.2.2.2.2.2.1).1, (((toR (keepR (fromR d0) d1.toNat) d0.2.2.2.2.2.1).2.1).1, ((toR (keepR (fromR d0) d1.toNat) d0.2.2.2.2.2.1).2.1).2.1, doneR (((toR (keepR (fromR d0) d1.toNat) d0.2.2.2.2.2.1).2.1).2.2.1) (x35.1, false, 0, (x35.2.2.2).take ((min d2 (((x35.2.2.2.length : Nat) : Int) - 1)).toNat)), ((toR (keepR (fromR d0) d1.toNat) d0.2.2.2.2.2.1).2.1).2.2.2), [], true, false, (toR (keepR (fromR d0) d1.toNat) d0.2.2.2.2.2.1).2.2.2.2.2)) := (mkP_ref05Disk ((toR (keepR (fromR d0) d1.toNat) d0.2.2.2.2.2.1).1) (((toR (keepR (fromR d0) d1.toNat) d0.2.2.2.2.2.1).2.1).1) (((toR (keepR (fromR d0) d1.toNat) d0.2.2.2.2.2.1).2.1).2.1) (doneR (((toR (keepR (fromR d0) d1.toNat) d0.2.2.2.2.2.1).2.1).2.2.1) (x35.1, false, 0, (x35.2.2.2).take ((min d2 (((x35.2.2.2.length : Nat) : Int) - 1)).toNat))) (((toR (keepR (fromR d0) d1.toNat) d0.2.2.2.2.2.1).2.1).2.2.2) [] true false ((toR (keepR (fromR d0) d1.toNat) d0.2.2.2.2.2.1).2.2.2.2.2.1) ((toR (keepR (fromR d0) d1.toNat) d0.2.2.2.2.2.1).2.2.2.2.2.2) hg95 (OwnL.ow (Ow.ownl q88_1 rfl mnil) rfl) (OwnL.ow (Ow.ownl q88_2 rfl mnil) rfl) (OwnL.ow (Ow.ownl q88_3 rfl mnil) rfl) (OwnL.ow (Ow.ownl q88_4 rfl mnil) rfl) q88_5 (by simp only [inK]; (exact fin3_rStart_ok)) (by simp only [inK]; (exact fin3_rStart_ok)))
                refine VO.k9 0 1 2 6 7 8 10 22 43 ?_
                refine VC.rs ?_
                refine VO.as ?_
                refine VO.keep [195, 137, 133, 0] [(195, muns [mone g0 (.cells [Value.bool ((toR (keepR (fromR d0) d1.toNat) d0.2.2.2.2.2.1).1), Value.slice q88_A1 ((((toR (keepR (fromR d0) d1.toNat) d0.2.2.2.2.2.1).2.1).1).length) (q88_c1), Value.slice q88_A2 ((((toR (keepR (fromR d0) d1.toNat) d0.2.2.2.2.2.1).2.1).2.1).length) (q88_c2), Value.slice q88_A3 ((doneR (((toR (keepR (fromR d0) d1.toNat) d0.2.2.2.2.2.1).2.1).2.2.1) (x35.1, false, 0, (x35.2.2.2).take ((min d2 (((x35.2.2.2.length : Nat) : Int) - 1)).toNat))).length) (q88_c3), Value.slice q88_A4 ((((toR (keepR (fromR d0) d1.toNat) d0.2.2.2.2.2.1).2.1).2.2.2).length) (q88_c4), Value.slice q88_A5 (([] : List Dref05Raw).length) (q88_c5), Value.bool true, Value.bool false, Value.int .i64 ((toR (keepR (fromR d0) d1.toNat) d0.2.2.2.2.2.1).2.2.2.2.2.1), Value.int .i64 ((toR (keepR (fromR d0) d1.toNat) d0.2.2.2.2.2.1).2.2.2.2.2.2)].toArray q88_E (0, 0)), q88_n1, q88_n2, q88_n3, q88_n4, q88_n5]), (137, mone g36 (.cells [Value.int .i64 (x35.1), Value.bool x35.2.1, Value.int .i64 (x35.2.2.1), Value.slice q35_A3 (x35.2.2.2.length) (q35_c3)].toArray 70 (0, 0))), (133, q28_n5), (0, mout (wm W) (m0))] (by kernel_rfl) ?_
                refine VO.k9 0 1 2 6 7 8 10 22 43 ?_
                refine VC.ret ?_
                refine ⟨_, _, res_run (rs := [.tmp 6]) rfl (.tmp rfl .nil), fun W_ hI => out_of (l := [muns [mone g0 (.cells [Value.bool ((toR (keepR (fromR d0) d1.toNat) d0.2.2.2.2.2.1).1), Value.slice q88_A1 ((((toR (keepR (fromR d0) d1.toNat) d0.2.2.2.2.2.1).2.1).1).length) (q88_c1), Value.slice q88_A2 ((((toR (keepR (fromR d0) d1.toNat) d0.2.2.2.2.2.1).2.1).2.1).length) (q88_c2), Value.slice q88_A3 ((doneR (((toR (keepR (fromR d0) d1.toNat) d0.2.2.2.2.2.1).2.1).2.2.1) (x35.1, false, 0, (x35.2.2.2).take ((min d2 (((x35.2.2.2.length : Nat) : Int) - 1)).toNat))).length) (q88_c3), Value.slice q88_A4 ((((toR (keepR (fromR d0) d1.toNat) d0.2.2.2.2.2.1).2.1).2.2.2).length) (q88_c4), Value.slice q88_A5 (([] : List Dref05Raw).length) (q88_c5), Value.bool true, Value.bool false, Value.int .i64 ((toR (keepR (fromR d0) d1.toNat) d0.2.2.2.2.2.1).2.2.2.2.2.1), Value.int .i64 ((toR (keepR (fromR d0) d1.toNat) d0.2.2.2.2.2.1).2.2.2.2.2.2)].toArray q88_E (0, 0)), q88_n1, q88_n2, q88_n3, q88_n4, q88_n5]]) hI [195] rfl rfl (mle_refl _) (fun hS_ => ?_)⟩
                dsimp only [packV]
                have hm0_ : (toR (dStart (fromR d0) d1 d2).1 d0.2.2.2.2.2.1 : Dref05Disk) = ((toR (keepR (fromR d0) d1.toNat) d0.2.2.2.2.2.1).1, (((toR (keepR (fromR d0) d1.toNat) d0.2.2.2.2.2.1).2.1).1, ((toR (keepR (fromR d0) d1.toNat) d0.2.2.2.2.2.1).2.1).2.1, doneR (((toR (keepR (fromR d0) d1.toNat) d0.2.2.2.2.2.1).2.1).2.2.1) (x35.1, false, 0, (x35.2.2.2).take ((min d2 (((x35.2.2.2.length : Nat) : Int) - 1)).toNat)), ((toR (keepR (fromR d0) d1.toNat) d0.2.2.2.2.2.1).2.1).2.2.2), [], true, false, (toR (keepR (fromR d0) d1.toNat) d0.2.2.2.2.2.1).2.2.2.2.2) := by first | rfl | (exact fin0_rStart_ok)
                refine ⟨?_, ?_⟩
                rotate_left
                · rw [hm0_]; exact (Ow.up ho95 (hS_.1 _ (.head _)))
                all_goals (first | rfl | (exact fin1_rStart_ok))
              · -- FFFFTT3
                refine VD.y rfl rfl (.inl rfl) (.ixa (i := 3) (o := 4) rfl rfl tar28 hi38 rfl rfl) ?_
                refine VD.y rfl rfl (.inl rfl) (.ld1 134 rfl tk27 rfl (cellsAt_one rfl rfl)) ?_
                refine VD.y rfl rfl (.inl rfl) (.fa rfl tst70 rfl) ?_
                refine VD.y rfl rfl (.inl rfl) (.ld1 137 rfl tk3 rfl (cellsAt_one rfl rfl)) ?_
                refine VD.y rfl rfl (.inl rfl) (.fa rfl tst70 rfl) ?_
                refine VD.y rfl rfl (.inl rfl) (.ld1 137 rfl tk27 rfl (cellsAt_one rfl rfl)) ?_
                refine VD.y rfl rfl (.inl rfl) (.mv rfl) ?_
                have hs96 := q35_3.pre (j := ((min d2 (((x35.2.2.2.length : Nat) : Int) - 1)).toNat)) (by exact fin3_rStart_ok)
                refine VD.y rfl rfl (.inl rfl) (.slHI ((min d2 (((x35.2.2.2.length : Nat) : Int) - 1)).toNat) rfl rfl tsl27 (by exact fin3_rStart_ok) (by exact fin3_rStart_ok)) ?_
                refine VD.y rfl rfl (.inl rfl) (.bst (cs := [Value.int .i64 (x35.1), Value.bool false, Value.int .i64 (0), Value.slice q35_A3 ((min d2 (((x35.2.2.2.length : Nat) : Int) - 1)).toNat) (q35_c3)]) rfl tst70 tz70 rfl) ?_
                refine VD.y rfl rfl (.inl rfl) (.nilp rfl) ?_
                refine VD.y rfl rfl (.inl rfl) (.fa rfl tst68 rfl) ?_
                refine VD.callN 197 rfl rfl (.inl rfl) fnOk59 rfl (fun _ h => h.sub [137, 134, 129, 130, 131, 132, 133, 0]) (fun W hW => rWith_ok W (OwnL.rd (Ow.ownl q28_4 rfl mnil) (hW.at (i := 132) rfl) (mle_nil _)) (mk_ref05Raw (m := wm W) x35.1 false 0 ((x35.2.2.2).take ((min d2 (((x35.2.2.2.length : Nat) : Int) - 1)).toNat)) (by simp only [inK]; (exact fin3_rStart_ok)) (by simp only [inK]; (exact fin3_rStart_ok)) (Rd.mono hs96 (hW.at (i := 133) rfl))) (by intro h_; cases h_) (by (have h_ := ‹_[d1.toNat]? = some _›; rw [rkeep_wait] at h_; have h2_ := (rstart_good e0 h_).2.2; first | (rw [getF0 ‹_ = (0 : Int)›] at h2_; exact room_le h2_ (by omega)) | (rw [getF1 ‹_ = (1 : Int)›] at h2_; exact room_le h2_ (by omega)) | (rw [getF2 ‹_ = (2 : Int)›] at h2_; exact room_le h2_ (by omega)) | (rw [getF3 ‹_ = (3 : Int)›] at h2_; exact room_le h2_ (by omega))))) (fun v97 m97 hv97 => ?_)
                try dsimp only at hv97
                obtain ⟨s97_0, rfl, f97_0⟩ := hv97
                obtain ⟨A97_0, c97_0, eq97_0, l97_0, k97_0⟩ := f97_0.slice
                subst eq97_0
                simp only [maxLen] at k97_0
                refine VD.nil rfl ?_ rfl
                refine VO.y rfl (.ixa (i := 3) (o := 4) rfl rfl tar28 hi38 rfl rfl) ?_
                refine VO.store (k := 1) (c' := [Value.bool ((toR (keepR (fromR d0) d1.toNat) d0.2.2.2.2.2.1).1), Value.slice q28_A1 ((((toR (keepR (fromR d0) d1.toNat) d0.2.2.2.2.2.1).2.1).1).length) (q28_c1), Value.slice q28_A2 ((((toR (keepR (fromR d0) d1.toNat) d0.2.2.2.2.2.1).2.1).2.1).length) (q28_c2), Value.slice q28_A3 ((((toR (keepR (fromR d0) d1.toNat) d0.2.2.2.2.2.1).2.1).2.2.1).length) (q28_c3), Value.slice A97_0 ((doneR (((toR (keepR (fromR d0) d1.toNat) d0.2.2.2.2.2.1).2.1).2.2.2) (x35.1, false, 0, (x35.2.2.2).take ((min d2 (((x35.2.2.2.length : Nat) : Int) - 1)).toNat))).length) (c97_0), Value.slice (some ⟨gg35, oo35, none⟩) (((toR (keepR (fromR d0) d1.toNat) d0.2.2.2.2.2.1).2.2.1).length) (q28_c5), Value.bool ((toR (keepR (fromR d0) d1.toNat) d0.2.2.2.2.2.1).2.2.2.1), Value.bool ((toR (keepR (fromR d0) d1.toNat) d0.2.2.2.2.2.1).2.2.2.2.1), Value.int .i64 ((toR (keepR (fromR d0) d1.toNat) d0.2.2.2.2.2.1).2.2.2.2.2.1), Value.int .i64 ((toR (keepR (fromR d0) d1.toNat) d0.2.2.2.2.2.1).2.2.2.2.2.2)]) 134 rfl rfl (.inr ⟨tk27, rfl⟩) rfl rfl rfl rfl rfl ?_
                refine VO.k9 0 1 2 6 7 8 10 22 43 ?_
                refine outN ?_
                refine VC.rs ?_
                refine VO.mv ?_
                refine VO.y rfl (.nilp rfl) ?_
                refine VO.y rfl (.fa rfl tst68 rfl) ?_
                refine VO.store (k := 1) (c' := [Value.bool ((toR (keepR (fromR d0) d1.toNat) d0.2.2.2.2.2.1).1), Value.slice q28_A1 ((((toR (keepR (fromR d0) d1.toNat) d0.2.2.2.2.2.1).2.1).1).length) (q28_c1), Value.slice q28_A2 ((((toR (keepR (fromR d0) d1.toNat) d0.2.2.2.2.2.1).2.1).2.1).length) (q28_c2), Value.slice q28_A3 ((((toR (keepR (fromR d0) d1.toNat) d0.2.2.2.2.2.1).2.1).2.2.1).length) (q28_c3), Value.slice A97_0 ((doneR (((toR (keepR (fromR d0) d1.toNat) d0.2.2.2.2.2.1).2.1).2.2.2) (x35.1, false, 0, (x35.2.2.2).take ((min d2 (((x35.2.2.2.length : Nat) : Int) - 1)).toNat))).length) (c97_0), Value.slice none (0) (0), Value.bool ((toR (keepR (fromR d0) d1.toNat) d0.2.2.2.2.2.1).2.2.2.1), Value.bool ((toR (keepR (fromR d0) d1.toNat) d0.2.2.2.2.2.1).2.2.2.2.1), Value.int .i64 ((toR (keepR (fromR d0) d1.toNat) d0.2.2.2.2.2.1).2.2.2.2.2.1), Value.int .i64 ((toR (keepR (fromR d0) d1.toNat) d0.2.2.2.2.2.1).2.2.2.2.2.2)]) 134 rfl rfl (.inr ⟨tk66, rfl⟩) rfl rfl rfl rfl rfl ?_
                refine VO.gather (l := [mone g0 (.cells [Value.bool ((toR (keepR (fromR d0) d1.toNat) d0.2.2.2.2.2.1).1), Value.slice q28_A1 ((((toR (keepR (fromR d0) d1.toNat) d0.2.2.2.2.2.1).2.1).1).length) (q28_c1), Value.slice q28_A2 ((((toR (keepR (fromR d0) d1.toNat) d0.2.2.2.2.2.1).2.1).2.1).length) (q28_c2), Value.slice q28_A3 ((((toR (keepR (fromR d0) d1.toNat) d0.2.2.2.2.2.1).2.1).2.2.1).length) (q28_c3), Value.slice A97_0 ((doneR (((toR (keepR (fromR d0) d1.toNat) d0.2.2.2.2.2.1).2.1).2.2.2) (x35.1, false, 0, (x35.2.2.2).take ((min d2 (((x35.2.2.2.length : Nat) : Int) - 1)).toNat))).length) (c97_0), Value.slice none (0) (0), Value.bool ((toR (keepR (fromR d0) d1.toNat) d0.2.2.2.2.2.1).2.2.2.1), Value.bool ((toR (keepR (fromR d0) d1.toNat) d0.2.2.2.2.2.1).2.2.2.2.1), Value.int .i64 ((toR (keepR (fromR d0) d1.toNat) d0.2.2.2.2.2.1).2.2.2.2.2.1), Value.int .i64 ((toR (keepR (fromR d0) d1.toNat) d0.2.2.2.2.2.1).2.2.2.2.2.2)].toArray q28_E (0, 0)), q28_n1, q28_n2, q28_n3, m97]) 198 [134, 129, 130, 131, 197] rfl (fun hg98 => ?_)
                have ho98 : Ow (.ptr Tref05Disk) (muns [mone g0 (.cells [Value.bool ((toR (keepR (fromR d0) d1.toNat) d0.2.2.2.2.2.1).1), Value.slice q28_A1 ((((toR (keepR (fromR d0) d1.toNat) d0.2.2.2.2.2.1).2.1).1).length) (q28_c1), Value.slice q28_A2 ((((toR (keepR (fromR d0) d1.toNat) d0.2.2.2.2.2.1).2.1).2.1).length) (q28_c2), Value.slice q28_A3 ((((toR (keepR (fromR d0) d1.toNat) d0.2.2.2.2.2.1).2.1).2.2.1).length) (q28_c3), Value.slice A97_0 ((doneR (((toR (keepR (fromR d0) d1.toNat) d0.2.2.2.2.2.1).2.1).2.2.2) (x35.1, false, 0, (x35.2.2.2).take ((min d2 (((x35.2.2.2.length : Nat) : Int) - 1)).toNat))).length) (c97_0), Value.slice none (0) (0), Value.bool ((toR (keepR (fromR d0) d1.toNat) d0.2.2.2.2.2.1).2.2.2.1), Value.bool ((toR (keepR (fromR d0) d1.toNat) d0.2.2.2.2.2.1).2.2.2.2.1), Value.int .i64 ((toR (keepR (fromR d0) d1.toNat) d0.2.2.2.2.2.1).2.2.2.2.2.1), Value.int .i64 ((toR (keepR (fromR d0) d1.toNat) d0.2.2.2.2.2.1).2.2.2.2.2.2)].toArray q28_E (0, 0)), q28_n1, q28_n2, q28_n3, m97]) [.pointer (some ⟨g0, 0, none⟩)] (g0, ((toR (keepR (fromR d0) d1.toNat) d0.2.2.2.2.2.1).1, (((toR (keepR (fromR d0) d1.toNat) d0.2.2.2.2.2.1).2.1).1, ((toR (keepR (fromR d0) d1.toNat) d0.2.2.2.2.2.1).2.1).2.1, ((toR (keepR (fromR d0) d1.toNat) d0.2.2.2.2.2.1).2.1).2.2.1, doneR (((toR (keepR (fromR d0) d1.toNat) d0.2.2.2.2.2.1).2.1).2.2.2) (x35.1, false, 0, (x35.2.2.2).take ((min d2 (((x35.2.2.2.length : Nat) : Int) - 1)).toNat))), [], (toR (keepR (fromR d0) d1.toNat) d0.2.2.2.2.2.1).2.2.2)) := (mkP_ref05Disk ((toR (keepR (fromR d0) d1.toNat) d0.2.2.2.2.2.1).1) (((toR (keepR (fromR d0) d1.toNat) d0.2.2.2.2.2.1).2.1).1) (((toR (keepR (fromR d0) d1.toNat) d0.2.2.2.2.2.1).2.1).2.1) (((toR (keepR (fromR d0) d1.toNat) d0.2.2.2.2.2.1).2.1).2.2.1) (doneR (((toR (keepR (fromR d0) d1.toNat) d0.2.2.2.2.2.1).2.1).2.2.2) (x35.1, false, 0, (x35.2.2.2).take ((min d2 (((x35.2.2.2.length : Nat) : Int) - 1)).toNat))) [] ((toR (keepR (fromR d0) d1.toNat) d0.2.2.2.2.2.1).2.2.2.1) ((toR (keepR (fromR d0) d1.toNat) d0.2.2.2.2.2.1).2.2.2.2.1) ((toR (keepR (fromR d0) d1.toNat) d0.2.2.2.2.2.1).2.2.2.2.2.1) ((toR (keepR (fromR d0) d1.toNat) d0.2.2.2.2.2.1).2.2.2.2.2.2) (Seps.nilAt 5 hg98) (OwnL.ow (Ow.ownl q28_1 rfl mnil) rfl) (OwnL.ow (Ow.ownl q28_2 rfl mnil) rfl) (OwnL.ow (Ow.ownl q28_3 rfl mnil) rfl) (OwnL.ow (Ow.ownl f97_0 rfl mnil) rfl) (Ow.nil _ _) (by simp only [inK]; (exact fin3_rStart_ok)) (by simp only [inK]; (exact fin3_rStart_ok)))
                refine VO.keep [198, 137, 133, 0] [(198, muns [mone g0 (.cells [Value.bool ((toR (keepR (fromR d0) d1.toNat) d0.2.2.2.2.2.1).1), Value.slice q28_A1 ((((toR (keepR (fromR d0) d1.toNat) d0.2.2.2.2.2.1).2.1).1).length) (q28_c1), Value.slice q28_A2 ((((toR (keepR (fromR d0) d1.toNat) d0.2.2.2.2.2.1).2.1).2.1).length) (q28_c2), Value.slice q28_A3 ((((toR (keepR (fromR d0) d1.toNat) d0.2.2.2.2.2.1).2.1).2.2.1).length) (q28_c3), Value.slice A97_0 ((doneR (((toR (keepR (fromR d0) d1.toNat) d0.2.2.2.2.2.1).2.1).2.2.2) (x35.1, false, 0, (x35.2.2.2).take ((min d2 (((x35.2.2.2.length : Nat) : Int) - 1)).toNat))).length) (c97_0), Value.slice none (0) (0), Value.bool ((toR (keepR (fromR d0) d1.toNat) d0.2.2.2.2.2.1).2.2.2.1), Value.bool ((toR (keepR (fromR d0) d1.toNat) d0.2.2.2.2.2.1).2.2.2.2.1), Value.int .i64 ((toR (keepR (fromR d0) d1.toNat) d0.2.2.2.2.2.1).2.2.2.2.2.1), Value.int .i64 ((toR (keepR (fromR d0) d1.toNat) d0.2.2.2.2.2.1).2.2.2.2.2.2)].toArray q28_E (0, 0)), q28_n1, q28_n2, q28_n3, m97]), (137, mone g36 (.cells [Value.int .i64 (x35.1), Value.bool x35.2.1, Value.int .i64 (x35.2.2.1), Value.slice q35_A3 (x35.2.2.2.length) (q35_c3)].toArray 70 (0, 0))), (133, q28_n5), (0, mout (wm W) (m0))] (by kernel_rfl) ?_
                refine VO.k9 0 1 2 6 7 8 10 22 43 ?_
                refine VC.rs ?_
                refine VO.mv ?_
                refine VO.y rfl (.nilp rfl) ?_
                refine VO.y rfl (.fa rfl tst68 rfl) ?_
                obtain ⟨q99_E, q99_A1, q99_c1, q99_A2, q99_c2, q99_A3, q99_c3, q99_A4, q99_c4, q99_A5, q99_c5, q99_n1, q99_n2, q99_n3, q99_n4, q99_n5, _, q99_S, q99_1, q99_2, q99_3, q99_4, q99_5, q99_8, q99_9⟩ := openP_ref05Disk (x0 := (toR (keepR (fromR d0) d1.toNat) d0.2.2.2.2.2.1).1) (x1 := ((toR (keepR (fromR d0) d1.toNat) d0.2.2.2.2.2.1).2.1).1) (x2 := ((toR (keepR (fromR d0) d1.toNat) d0.2.2.2.2.2.1).2.1).2.1) (x3 := ((toR (keepR (fromR d0) d1.toNat) d0.2.2.2.2.2.1).2.1).2.2.1) (x4 := doneR (((toR (keepR (fromR d0) d1.toNat) d0.2.2.2.2.2.1).2.1).2.2.2) (x35.1, false, 0, (x35.2.2.2).take ((min d2 (((x35.2.2.2.length : Nat) : Int) - 1)).toNat))) (x5 := []) (x6 := (toR (keepR (fromR d0) d1.toNat) d0.2.2.2.2.2.1).2.2.2.1) (x7 := (toR (keepR (fromR d0) d1.toNat) d0.2.2.2.2.2.1).2.2.2.2.1) (x8 := (toR (keepR (fromR d0) d1.toNat) d0.2.2.2.2.2.1).2.2.2.2.2.1) (x9 := (toR (keepR (fromR d0) d1.toNat) d0.2.2.2.2.2.1).2.2.2.2.2.2) ho98
                have q99_r1 := Rd.room (q99_1.rd (mle_refl _))
                have q99_r2 := Rd.room (q99_2.rd (mle_refl _))
                have q99_r3 := Rd.room (q99_3.rd (mle_refl _))
                have q99_r4 := Rd.room (q99_4.rd (mle_refl _))
                have q99_r5 := Rd.room (q99_5.rd (mle_refl _))
                simp only [inK] at q99_8
                simp only [inK] at q99_9
                refine VO.inv _ (fun _ h => h.parts (i := 198) rfl q99_S [205, 200, 201, 202, 203, 204]) ?_
                refine VO.store (k := 1) (c' := [Value.bool ((toR (keepR (fromR d0) d1.toNat) d0.2.2.2.2.2.1).1), Value.slice q99_A1 ((((toR (keepR (fromR d0) d1.toNat) d0.2.2.2.2.2.1).2.1).1).length) (q99_c1), Value.slice q99_A2 ((((toR (keepR (fromR d0) d1.toNat) d0.2.2.2.2.2.1).2.1).2.1).length) (q99_c2), Value.slice q99_A3 ((((toR (keepR (fromR d0) d1.toNat) d0.2.2.2.2.2.1).2.1).2.2.1).length) (q99_c3), Value.slice q99_A4 ((doneR (((toR (keepR (fromR d0) d1.toNat) d0.2.2.2.2.2.1).2.1).2.2.2) (x35.1, false, 0, (x35.2.2.2).take ((min d2 (((x35.2.2.2.length : Nat) : Int) - 1)).toNat))).length) (q99_c4), Value.slice q99_A5 (([] : List Dref05Raw).length) (q99_c5), Value.bool ((toR (keepR (fromR d0) d1.toNat) d0.2.2.2.2.2.1).2.2.2.1), Value.bool false, Value.int .i64 ((toR (keepR (fromR d0) d1.toNat) d0.2.2.2.2.2.1).2.2.2.2.2.1), Value.int .i64 ((toR (keepR (fromR d0) d1.toNat) d0.2.2.2.2.2.1).2.2.2.2.2.2)]) 205 rfl rfl (.inr ⟨tk4, rfl⟩) rfl rfl rfl rfl rfl ?_
                refine VO.gather (l := [mone g0 (.cells [Value.bool ((toR (keepR (fromR d0) d1.toNat) d0.2.2.2.2.2.1).1), Value.slice q99_A1 ((((toR (keepR (fromR d0) d1.toNat) d0.2.2.2.2.2.1).2.1).1).length) (q99_c1), Value.slice q99_A2 ((((toR (keepR (fromR d0) d1.toNat) d0.2.2.2.2.2.1).2.1).2.1).length) (q99_c2), Value.slice q99_A3 ((((toR (keepR (fromR d0) d1.toNat) d0.2.2.2.2.2.1).2.1).2.2.1).length) (q99_c3), Value.slice q99_A4 ((doneR (((toR (keepR (fromR d0) d1.toNat) d0.2.2.2.2.2.1).2.1).2.2.2) (x35.1, false, 0, (x35.2.2.2).take ((min d2 (((x35.2.2.2.length : Nat) : Int) - 1)).toNat))).length) (q99_c4), Value.slice q99_A5 (([] : List Dref05Raw).length) (q99_c5), Value.bool ((toR (keepR (fromR d0) d1.toNat) d0.2.2.2.2.2.1).2.2.2.1), Value.bool false, Value.int .i64 ((toR (keepR (fromR d0) d1.toNat) d0.2.2.2.2.2.1).2.2.2.2.2.1), Value.int .i64 ((toR (keepR (fromR d0) d1.toNat) d0.2.2.2.2.2.1).2.2.2.2.2.2)].toArray q99_E (0, 0)), q99_n1, q99_n2, q99_n3, q99_n4, q99_n5]) 206 [205, 200, 201, 202, 203, 204] rfl (fun hg106 => ?_)
                have ho106 : Ow (.ptr Tref05Disk) (muns [mone g0 (.cells [Value.bool ((toR (keepR (fromR d0) d1.toNat) d0.2.2.2.2.2.1).1), Value.slice q99_A1 ((((toR (keepR (fromR d0) d1.toNat) d0.2.2.2.2.2.1).2.1).1).length) (q99_c1), Value.slice q99_A2 ((((toR (keepR (fromR d0) d1.toNat) d0.2.2.2.2.2.1).2.1).2.1).length) (q99_c2), Value.slice q99_A3 ((((toR (keepR (fromR d0) d1.toNat) d0.2.2.2.2.2.1).2.1).2.2.1).length) (q99_c3), Value.slice q99_A4 ((doneR (((toR (keepR (fromR d0) d1.toNat) d0.2.2.2.2.2.1).2.1).2.2.2) (x35.1, false, 0, (x35.2.2.2).take ((min d2 (((x35.2.2.2.length : Nat) : Int) - 1)).toNat))).length) (q99_c4), Value.slice q99_A5 (([] : List Dref05Raw).length) (q99_c5), Value.bool ((toR (keepR (fromR d0) d1.toNat) d0.2.2.2.2.2.1).2.2.2.1), Value.bool false, Value.int .i64 ((toR (keepR (fromR d0) d1.toNat) d0.2.2.2.2.2.1).2.2.2.2.2.1), Value.int .i64 ((toR (keepR (fromR d0) d1.toNat) d0.2.2.2.2.2.1).2.2.2.2.2.2)].toArray q99_E (0, 0)), q99_n1, q99_n2, q99_n3, q99_n4, q99_n5]) [.pointer (some ⟨g0, 0, none⟩)] (g0, ((toR (keepR (fromR d0) d1.toNat) d0.2.2.2.2.2.1).1, (((toR (keepR (fromR d0) d1.toNat) d0.2.2.2.2.2.1).2.1).1, ((toR (keepR (fromR d0) d1.toNat) d0.2.2.2.2.2.1).2.1).2.1, ((toR (keepR (fromR d0) d1.toNat) d0.2.2.2.2.2.1).2.1).2.2.1, doneR (((toR (keepR (fromR d0) d1.toNat) d0.2.2.2.2.2.1).2.1).2.2.2) (x35.1, false, 0, (x35.2.2.2).take ((min d2 (((x35.2.2.2.length : Nat) : Int) - 1)).toNat))), [], (toR (keepR (fromR d0) d1.toNat) d0.2.2.2.2.2.1).2.2.2.1, false, (toR (keepR (fromR d0) d1.toNat) d0.2.2.2.2.2.1).2.2.2.2.2)) := (mkP_ref05Disk ((toR (keepR (fromR d0) d1.toNat) d0.2.2.2.2.2.1).1) (((toR (keepR (fromR d0) d1.toNat) d0.2.2.2.2.2.1).2.1).1) (((toR (keepR (fromR d0) d1.toNat) d0.2.2.2.2.2.1).2.1).2.1) (((toR (keepR (fromR d0) d1.toNat) d0.2.2.2.2.2.1).2.1).2.2.1) (doneR (((toR (keepR (fromR d0) d1.toNat) d0.2.2.2.2.2.1).2.1).2.2.2) (x35.1, false, 0, (x35.2.2.2).take ((min d2 (((x35.2.2.2.length : Nat) : Int) - 1)).toNat))) [] ((toR (keepR (fromR d0) d1.toNat) d0.2.2.2.2.2.1).2.2.2.1) false ((toR (keepR (fromR d0) d1.toNat) d0.2.2.2.2.2.1).2.2.2.2.2.1) ((toR (keepR (fromR d0) d1.toNat) d0.2.2.2.2.2.1).2.2.2.2.2.2) hg106 (OwnL.ow (Ow.ownl q99_1 rfl mnil) rfl) (OwnL.ow (Ow.ownl q99_2 rfl mnil) rfl) (OwnL.ow (Ow.ownl q99_3 rfl mnil) rfl) (OwnL.ow (Ow.ownl q99_4 rfl mnil) rfl) q99_5 (by simp only [inK]; (exact fin3_rStart_ok)) (by simp only [inK]; (exact fin3_rStart_ok)))
                refine VO.k9 0 1 2 6 7 8 10 22 43 ?_
                refine VC.rs ?_
                refine VO.mv ?_
                refine VO.y rfl (.nilp rfl) ?_
                refine VO.y rfl (.fa rfl tst68 rfl) ?_
                obtain ⟨q107_E, q107_A1, q107_c1, q107_A2, q107_c2, q107_A3, q107_c3, q107_A4, q107_c4, q107_A5, q107_c5, q107_n1, q107_n2, q107_n3, q107_n4, q107_n5, _, q107_S, q107_1, q107_2, q107_3, q107_4, q107_5, q107_8, q107_9⟩ := openP_ref05Disk (x0 := (toR (keepR (fromR d0) d1.toNat) d0.2.2.2.2.2.1).1) (x1 := ((toR (keepR (fromR d0) d1.toNat) d0.2.2.2.2.2.1).2.1).1) (x2 := ((toR (keepR (fromR d0) d1.toNat) d0.2.2.2.2.2.1).2.1).2.1) (x3 := ((toR (keepR (fromR d0) d1.toNat) d0.2.2.2.2.2.1).2.1).2.2.1) (x4 := doneR (((toR (keepR (fromR d0) d1.toNat) d0.2.2.2.2.2.1).2.1).2.2.2) (x35.1, false, 0, (x35.2.2.2).take ((min d2 (((x35.2.2.2.length : Nat) : Int) - 1)).toNat))) (x5 := []) (x6 := (toR (keepR (fromR d0) d1.toNat) d0.2.2.2.2.2.1).2.2.2.1) (x7 := false) (x8 := (toR (keepR (fromR d0) d1.toNat) d0.2.2.2.2.2.1).2.2.2.2.2.1) (x9 := (toR (keepR (fromR d0) d1.toNat) d0.2.2.2.2.2.1).2.2.2.2.2.2) ho106
                have q107_r1 := Rd.room (q107_1.rd (mle_refl _))
                have q107_r2 := Rd.room (q107_2.rd (mle_refl _))
                have q107_r3 := Rd.room (q107_3.rd (mle_refl _))
                have q107_r4 := Rd.room (q107_4.rd (mle_refl _))
                have q107_r5 := Rd.room (q107_5.rd (mle_refl _))
                simp only [inK] at q107_8
                simp only [inK] at q107_9
                refine VO.inv _ (fun _ h => h.parts (i := 206) rfl q107_S [213, 208, 209, 210, 211, 212]) ?_
                refine VO.store (k := 1) (c' := [Value.bool ((toR (keepR (fromR d0) d1.toNat) d0.2.2.2.2.2.1).1), Value.slice q107_A1 ((((toR (keepR (fromR d0) d1.toNat) d0.2.2.2.2.2.1).2.1).1).length) (q107_c1), Value.slice q107_A2 ((((toR (keepR (fromR d0) d1.toNat) d0.2.2.2.2.2.1).2.1).2.1).length) (q107_c2), Value.slice q107_A3 ((((toR (keepR (fromR d0) d1.toNat) d0.2.2.2.2.2.1).2.1).2.2.1).length) (q107_c3), Value.slice q107_A4 ((doneR (((toR (keepR (fromR d0) d1.toNat) d0.2.2.2.2.2.1).2.1).2.2.2) (x35.1, false, 0, (x35.2.2.2).take ((min d2 (((x35.2.2.2.length : Nat) : Int) - 1)).toNat))).length) (q107_c4), Value.slice q107_A5 (([] : List Dref05Raw).length) (q107_c5), Value.bool true, Value.bool false, Value.int .i64 ((toR (keepR (fromR d0) d1.toNat) d0.2.2.2.2.2.1).2.2.2.2.2.1), Value.int .i64 ((toR (keepR (fromR d0) d1.toNat) d0.2.2.2.2.2.1).2.2.2.2.2.2)]) 213 rfl rfl (.inr ⟨tk4, rfl⟩) rfl rfl rfl rfl rfl ?_
                refine VO.gather (l := [mone g0 (.cells [Value.bool ((toR (keepR (fromR d0) d1.toNat) d0.2.2.2.2.2.1).1), Value.slice q107_A1 ((((toR (keepR (fromR d0) d1.toNat) d0.2.2.2.2.2.1).2.1).1).length) (q107_c1), Value.slice q107_A2 ((((toR (keepR (fromR d0) d1.toNat) d0.2.2.2.2.2.1).2.1).2.1).length) (q107_c2), Value.slice q107_A3 ((((toR (keepR (fromR d0) d1.toNat) d0.2.2.2.2.2.1).2.1).2.2.1).length) (q107_c3), Value.slice q107_A4 ((doneR (((toR (keepR (fromR d0) d1.toNat) d0.2.2.2.2.2.1).2.1).2.2.2) (x35.1, false, 0, (x35.2.2.2).take ((min d2 (((x35.2.2.2.length : Nat) : Int) - 1)).toNat))).length) (q107_c4), Value.slice q107_A5 (([] : List Dref05Raw).length) (q107_c5), Value.bool true, Value.bool false, Value.int .i64 ((toR (keepR (fromR d0) d1.toNat) d0.2.2.2.2.2.1).2.2.2.2.2.1), Value.int .i64 ((toR (keepR (fromR d0) d1.toNat) d0.2.2.2.2.2.1).2.2.2.2.2.2)].toArray q107_E (0, 0)), q107_n1, q107_n2, q107_n3, q107_n4, q107_n5]) 214 [213, 208, 209, 210, 211, 212] rfl (fun hg114 => ?_)
                have ho114 : Ow (.ptr Tref05Disk) (muns [mone g0 (.cells [Value.bool ((toR (keepR (fromR d0) d1.toNat) d0.2.2.2.2.2.1).1), Value.slice q107_A1 ((((toR (keepR (fromR d0) d1.toNat) d0.2.2.2.2.2.1).2.1).1).length) (q107_c1), Value.slice q107_A2 ((((toR (keepR (fromR d0) d1.toNat) d0.2.2.2.2.2.1).2.1).2.1).length) (q107_c2), Value.slice q107_A3 ((((toR (keepR (fromR d0) d1.toNat) d0.2.2.2.2.2.1).2.1).2.2.1).length) (q107_c3), Value.slice q107_A4 ((doneR (((toR (keepR (fromR d0) d1.toNat) d0.2.2.2.2.2.1).2.1).2.2.2) (x35.1, false, 0, (x35.2.2.2).take ((min d2 (((x35.2.2.2.length : Nat) : Int) - 1)).toNat))).length) (q107_c4), Value.slice q107_A5 (([] : List Dref05Raw).length) (q107_c5), Value.bool true, Value.bool false, Value.int .i64 ((toR (keepR (fromR d0) d1.toNat) d0.2.2.2.2.2.1).2.2.2.2.2.1), Value.int .i64 ((toR (keepR (fromR d0) d1.toNat) d0.2.2.2.2.2.1).2.2.2.2.2.2)].toArray q107_E (0, 0)), q107_n1, q107_n2, q107_n3, q107_n4, q107_n5]) [.pointer (some ⟨g0, 0, none⟩)] (g0, ((toR (keepR (fromR d0) d1.toNat) d0.2.2.2.2.2.1).1, (((toR (keepR (fromR d0) d1.toNat) d0.2.2.2.2.2.1).2.1).1, ((toR (keepR (fromR d0) d1.toNat) d0.2.2.2.2.2.1).2.1).2.1, ((toR (keepR (fromR d0) d1.toNat) d0.2.2.2.2.2.1).2.1).2.2.1, doneR (((toR (keepR (fromR d0) d1.toNat) d0.2.2.2.2.2.1).2.1).2.2.2) (x35.1, false, 0, (x35.2.2.2).take ((min d2 (((x35.2.2.2.length : Nat) : Int) - 1)).toNat))), [], true, false, (toR (keepR (fromR d0) d1.toNat) d0.2.2.2.2.2.1).2.2.2.2.2)) := (mkP_ref05Disk ((toR (keepR (fromR d0) d1.toNat) d0.2.2.2.2.2.1).1) (((toR (keepR (fromR d0) d1.toNat) d0.2.2.2.2.2.1).2.1).1) (((toR (keepR (fromR d0) d1.toNat) d0.2.2.2.2.2.1).2.1).2.1) (((toR (keepR (fromR d0) d1.toNat) d0.2.2.2.2.2.1).2.1).2.2.1) (doneR (((toR (keepR (fromR d0) d1.toNat) d0.2.2.2.2.2.1).2.1).2.2.2) (x35.1, false, 0, (x35.2.2.2).take ((min d2 (((x35.2.2.2.length : Nat) : Int) - 1)).toNat))) [] true false ((toR (keepR (fromR d0) d1.toNat) d0.2.2.2.2.2.1).2.2.2.2.2.1) ((toR (keepR (fromR d0) d1.toNat) d0.2.2.2.2.2.1).2.2.2.2.2.2) hg114 (OwnL.ow (Ow.ownl q107_1 rfl mnil) rfl) (OwnL.ow (Ow.ownl q107_2 rfl mnil) rfl) (OwnL.ow (Ow.ownl q107_3 rfl mnil) rfl) (OwnL.ow (Ow.ownl q107_4 rfl mnil) rfl) q107_5 (by simp only [inK]; (exact fin3_rStart_ok)) (by simp only [inK]; (exact fin3_rStart_ok)))
                refine VO.k9 0 1 2 6 7 8 10 22 43 ?_
                refine VC.rs ?_
                refine VO.as ?_
                refine VO.keep [214, 137, 133, 0] [(214, muns [mone g0 (.cells [Value.bool ((toR (keepR (fromR d0) d1.toNat) d0.2.2.2.2.2.1).1), Value.slice q107_A1 ((((toR (keepR (fromR d0) d1.toNat) d0.2.2.2.2.2.1).2.1).1).length) (q107_c1), Value.slice q107_A2 ((((toR (keepR (fromR d0) d1.toNat) d0.2.2.2.2.2.1).2.1).2.1).length) (q107_c2), Value.slice q107_A3 ((((toR (keepR (fromR d0) d1.toNat) d0.2.2.2.2.2.1).2.1).2.2.1).length) (q107_c3), Value.slice q107_A4 ((doneR (((toR (keepR (fromR d0) d1.toNat) d0.2.2.2.2.2.1).2.1).2.2.2) (x35.1, false, 0, (x35.2.2.2).take ((min d2 (((x35.2.2.2.length : Nat) : Int) - 1)).toNat))).length) (q107_c4), Value.slice q107_A5 (([] : List Dref05Raw).length) (q107_c5), Value.bool true, Value.bool false, Value.int .i64 ((toR (keepR (fromR d0) d1.toNat) d0.2.2.2.2.2.1).2.2.2.2.2.1), Value.int .i64 ((toR (keepR (fromR d0) d1.toNat) d0.2.2.2.2.2.1).2.2.2.2.2.2)].toArray q107_E (0, 0)), q107_n1, q107_n2, q107_n3, q107_n4, q107_n5]), (137, mone g36 (.cells [Value.int .i64 (x35.1), Value.bool x35.2.1, Value.int .i64 (x35.2.2.1), Value.slice q35_A3 (x35.2.2.2.length) (q35_c3)].toArray 70 (0, 0))), (133, q28_n5), (0, mout (wm W) (m0))] (by kernel_rfl) ?_
                refine VO.k9 0 1 2 6 7 8 10 22 43 ?_
                refine VC.ret ?_
                refine ⟨_, _, res_run (rs := [.tmp 6]) rfl (.tmp rfl .nil), fun W_ hI => out_of (l := [muns [mone g0 (.cells [Value.bool ((toR (keepR (fromR d0) d1.toNat) d0.2.2.2.2.2.1).1), Value.slice q107_A1 ((((toR (keepR (fromR d0) d1.toNat) d0.2.2.2.2.2.1).2.1).1).length) (q107_c1), Value.slice q107_A2 ((((toR (keepR (fromR d0) d1.toNat) d0.2.2.2.2.2.1).2.1).2.1).length) (q107_c2), Value.slice q107_A3 ((((toR (keepR (fromR d0) d1.toNat) d0.2.2.2.2.2.1).2.1).2.2.1).length) (q107_c3), Value.slice q107_A4 ((doneR (((toR (keepR (fromR d0) d1.toNat) d0.2.2.2.2.2.1).2.1).2.2.2) (x35.1, false, 0, (x35.2.2.2).take ((min d2 (((x35.2.2.2.length : Nat) : Int) - 1)).toNat))).length) (q107_c4), Value.slice q107_A5 (([] : List Dref05Raw).length) (q107_c5), Value.bool true, Value.bool false, Value.int .i64 ((toR (keepR (fromR d0) d1.toNat) d0.2.2.2.2.2.1).2.2.2.2.2.1), Value.int .i64 ((toR (keepR (fromR d0) d1.toNat) d0.2.2.2.2.2.1).2.2.2.2.2.2)].toArray q107_E (0, 0)), q107_n1, q107_n2, q107_n3, q107_n4, q107_n5]]) hI [214] rfl rfl (mle_refl _) (fun hS_ => ?_)⟩
                dsimp only [packV]
                have hm0_ : (toR (dStart (fromR d0) d1 d2).1 d0.2.2.2.2.2.1 : Dref05Disk) = ((toR (keepR (fromR d0) d1.toNat) d0.2.2.2.2.2.1).1, (((toR (keepR (fromR d0) d1.toNat) d0.2.2.2.2.2.1).2.1).1, ((toR (keepR (fromR d0) d1.toNat) d0.2.2.2.2.2.1).2.1).2.1, ((toR (keepR (fromR d0) d1.toNat) d0.2.2.2.2.2.1).2.1).2.2.1, doneR (((toR (keepR (fromR d0) d1.toNat) d0.2.2.2.2.2.1).2.1).2.2.2) (x35.1, false, 0, (x35.2.2.2).take ((min d2 (((x35.2.2.2.length : Nat) : Int) - 1)).toNat))), [], true, false, (toR (keepR (fromR d0) d1.toNat) d0.2.2.2.2.2.1).2.2.2.2.2) := by first | rfl | (exact fin0_rStart_ok)
                refine ⟨?_, ?_⟩
                rotate_left
                · rw [hm0_]; exact (Ow.up ho114 (hS_.1 _ (.head _)))
                all_goals (first | rfl | (exact fin1_rStart_ok))
            · -- FFFFTF
              refine VC.skip ?_
              refine outN ?_
              refine VC.rs ?_
              refine VO.mv ?_
              refine VO.y rfl (.nilp rfl) ?_
              refine VO.y rfl (.fa rfl tst68 rfl) ?_
              obtain ⟨q115_E, q115_A1, q115_c1, q115_A2, q115_c2, q115_A3, q115_c3, q115_A4, q115_c4, q115_A5, q115_c5, q115_n1, q115_n2, q115_n3, q115_n4, q115_n5, _, q115_S, q115_1, q115_2, q115_3, q115_4, q115_5, q115_8, q115_9⟩ := openP_ref05Disk (x0 := (toR (keepR (fromR d0) d1.toNat) d0.2.2.2.2.2.1).1) (x1 := ((toR (keepR (fromR d0) d1.toNat) d0.2.2.2.2.2.1).2.1).1) (x2 := ((toR (keepR (fromR d0) d1.toNat) d0.2.2.2.2.2.1).2.1).2.1) (x3 := ((toR (keepR (fromR d0) d1.toNat) d0.2.2.2.2.2.1).2.1).2.2.1) (x4 := ((toR (keepR (fromR d0) d1.toNat) d0.2.2.2.2.2.1).2.1).2.2.2) (x5 := (toR (keepR (fromR d0) d1.toNat) d0.2.2.2.2.2.1).2.2.1) (x6 := (toR (keepR (fromR d0) d1.toNat) d0.2.2.2.2.2.1).2.2.2.1) (x7 := (toR (keepR (fromR d0) d1.toNat) d0.2.2.2.2.2.1).2.2.2.2.1) (x8 := (toR (keepR (fromR d0) d1.toNat) d0.2.2.2.2.2.1).2.2.2.2.2.1) (x9 := (toR (keepR (fromR d0) d1.toNat) d0.2.2.2.2.2.1).2.2.2.2.2.2) ho26
              have q115_r1 := Rd.room (q115_1.rd (mle_refl _))
              have q115_r2 := Rd.room (q115_2.rd (mle_refl _))
              have q115_r3 := Rd.room (q115_3.rd (mle_refl _))
              have q115_r4 := Rd.room (q115_4.rd (mle_refl _))
              have q115_r5 := Rd.room (q115_5.rd (mle_refl _))
              simp only [inK] at q115_8
              simp only [inK] at q115_9
              refine VO.inv _ (fun _ h => h.parts (i := 126) rfl q115_S [221, 216, 217, 218, 219, 220]) ?_
              refine VO.store (k := 1) (c' := [Value.bool ((toR (keepR (fromR d0) d1.toNat) d0.2.2.2.2.2.1).1), Value.slice q115_A1 ((((toR (keepR (fromR d0) d1.toNat) d0.2.2.2.2.2.1).2.1).1).length) (q115_c1), Value.slice q115_A2 ((((toR (keepR (fromR d0) d1.toNat) d0.2.2.2.2.2.1).2.1).2.1).length) (q115_c2), Value.slice q115_A3 ((((toR (keepR (fromR d0) d1.toNat) d0.2.2.2.2.2.1).2.1).2.2.1).length) (q115_c3), Value.slice q115_A4 ((((toR (keepR (fromR d0) d1.toNat) d0.2.2.2.2.2.1).2.1).2.2.2).length) (q115_c4), Value.slice none (0) (0), Value.bool ((toR (keepR (fromR d0) d1.toNat) d0.2.2.2.2.2.1).2.2.2.1), Value.bool ((toR (keepR (fromR d0) d1.toNat) d0.2.2.2.2.2.1).2.2.2.2.1), Value.int .i64 ((toR (keepR (fromR d0) d1.toNat) d0.2.2.2.2.2.1).2.2.2.2.2.1), Value.int .i64 ((toR (keepR (fromR d0) d1.toNat) d0.2.2.2.2.2.1).2.2.2.2.2.2)]) 221 rfl rfl (.inr ⟨tk66, rfl⟩) rfl rfl rfl rfl rfl ?_
              refine VO.gather (l := [mone g0 (.cells [Value.bool ((toR (keepR (fromR d0) d1.toNat) d0.2.2.2.2.2.1).1), Value.slice q115_A1 ((((toR (keepR (fromR d0) d1.toNat) d0.2.2.2.2.2.1).2.1).1).length) (q115_c1), Value.slice q115_A2 ((((toR (keepR (fromR d0) d1.toNat) d0.2.2.2.2.2.1).2.1).2.1).length) (q115_c2), Value.slice q115_A3 ((((toR (keepR (fromR d0) d1.toNat) d0.2.2.2.2.2.1).2.1).2.2.1).length) (q115_c3), Value.slice q115_A4 ((((toR (keepR (fromR d0) d1.toNat) d0.2.2.2.2.2.1).2.1).2.2.2).length) (q115_c4), Value.slice none (0) (0), Value.bool ((toR (keepR (fromR d0) d1.toNat) d0.2.2.2.2.2.1).2.2.2.1), Value.bool ((toR (keepR (fromR d0) d1.toNat) d0.2.2.2.2.2.1).2.2.2.2.1), Value.int .i64 ((toR (keepR (fromR d0) d1.toNat) d0.2.2.2.2.2.1).2.2.2.2.2.1), Value.int .i64 ((toR (keepR (fromR d0) d1.toNat) d0.2.2.2.2.2.1).2.2.2.2.2.2)].toArray q115_E (0, 0)), q115_n1, q115_n2, q115_n3, q115_n4]) 222 [221, 216, 217, 218, 219] rfl (fun hg122 => ?_)
              have ho122 : Ow (.ptr Tref05Disk) (muns [mone g0 (.cells [Value.bool ((toR (keepR (fromR d0) d1.toNat) d0.2.2.2.2.2.1).1), Value.slice q115_A1 ((((toR (keepR (fromR d0) d1.toNat) d0.2.2.2.2.2.1).2.1).1).length) (q115_c1), Value.slice q115_A2 ((((toR (keepR (fromR d0) d1.toNat) d0.2.2.2.2.2.1).2.1).2.1).length) (q115_c2), Value.slice q115_A3 ((((toR (keepR (fromR d0) d1.toNat) d0.2.2.2.2.2.1).2.1).2.2.1).length) (q115_c3), Value.slice q115_A4 ((((toR (keepR (fromR d0) d1.toNat) d0.2.2.2.2.2.1).2.1).2.2.2).length) (q115_c4), Value.slice none (0) (0), Value.bool ((toR (keepR (fromR d0) d1.toNat) d0.2.2.2.2.2.1).2.2.2.1), Value.bool ((toR (keepR (fromR d0) d1.toNat) d0.2.2.2.2.2.1).2.2.2.2.1), Value.int .i64 ((toR (keepR (fromR d0) d1.toNat) d0.2.2.2.2.2.1).2.2.2.2.2.1), Value.int .i64 ((toR (keepR (fromR d0) d1.toNat) d0.2.2.2.2.2.1).2.2.2.2.2.2)].toArray q115_E (0, 0)), q115_n1, q115_n2, q115_n3, q115_n4]) [.pointer (some ⟨g0, 0, none⟩)] (g0, ((toR (keepR (fromR d0) d1.toNat) d0.2.2.2.2.2.1).1, ((toR (keepR (fromR d0) d1.toNat) d0.2.2.2.2.2.1).2.1), [], (toR (keepR (fromR d0) d1.toNat) d0.2.2.2.2.2.1).2.2.2)) := (mkP_ref05Disk ((toR (keepR (fromR d0) d1.toNat) d0.2.2.2.2.2.1).1) (((toR (keepR (fromR d0) d1.toNat) d0.2.2.2.2.2.1).2.1).1) (((toR (keepR (fromR d0) d1.toNat) d0.2.2.2.2.2.1).2.1).2.1) (((toR (keepR (fromR d0) d1.toNat) d0.2.2.2.2.2.1).2.1).2.2.1) (((toR (keepR (fromR d0) d1.toNat) d0.2.2.2.2.2.1).2.1).2.2.2) [] ((toR (keepR (fromR d0) d1.toNat) d0.2.2.2.2.2.1).2.2.2.1) ((toR (keepR (fromR d0) d1.toNat) d0.2.2.2.2.2.1).2.2.2.2.1) ((toR (keepR (fromR d0) d1.toNat) d0.2.2.2.2.2.1).2.2.2.2.2.1) ((toR (keepR (fromR d0) d1.toNat) d0.2.2.2.2.2.1).2.2.2.2.2.2) (Seps.nilAt 5 hg122) (OwnL.ow (Ow.ownl q115_1 rfl mnil) rfl) (OwnL.ow (Ow.ownl q115_2 rfl mnil) rfl) (OwnL.ow (Ow.ownl q115_3 rfl mnil) rfl) (OwnL.ow (Ow.ownl q115_4 rfl mnil) rfl) (Ow.nil _ _) (by simp only [inK]; (exact fin3_rStart_ok)) (by simp only [inK]; (exact fin3_rStart_ok)))
              refine VO.keep [222, 0] [(222, muns [mone g0 (.cells [Value.bool ((toR (keepR (fromR d0) d1.toNat) d0.2.2.2.2.2.1).1), Value.slice q115_A1 ((((toR (keepR (fromR d0) d1.toNat) d0.2.2.2.2.2.1).2.1).1).length) (q115_c1), Value.slice q115_A2 ((((toR (keepR (fromR d0) d1.toNat) d0.2.2.2.2.2.1).2.1).2.1).length) (q115_c2), Value.slice q115_A3 ((((toR (keepR (fromR d0) d1.toNat) d0.2.2.2.2.2.1).2.1).2.2.1).length) (q115_c3), Value.slice q115_A4 ((((toR (keepR (fromR d0) d1.toNat) d0.2.2.2.2.2.1).2.1).2.2.2).length) (q115_c4), Value.slice none (0) (0), Value.bool ((toR (keepR (fromR d0) d1.toNat) d0.2.2.2.2.2.1).2.2.2.1), Value.bool ((toR (keepR (fromR d0) d1.toNat) d0.2.2.2.2.2.1).2.2.2.2.1), Value.int .i64 ((toR (keepR (fromR d0) d1.toNat) d0.2.2.2.2.2.1).2.2.2.2.2.1), Value.int .i64 ((toR (keepR (fromR d0) d1.toNat) d0.2.2.2.2.2.1).2.2.2.2.2.2)].toArray q115_E (0, 0)), q115_n1, q115_n2, q115_n3, q115_n4]), (0, mout (wm W) (m0))] (by kernel_rfl) ?_
              refine VO.k7 0 1 2 6 10 22 43 ?_
              refine VC.rs ?_
              refine VO.mv ?_
              refine VO.y rfl (.nilp rfl) ?_
              refine VO.y rfl (.fa rfl tst68 rfl) ?_
              obtain ⟨q123_E, q123_A1, q123_c1, q123_A2, q123_c2, q123_A3, q123_c3, q123_A4, q123_c4, q123_A5, q123_c5, q123_n1, q123_n2, q123_n3, q123_n4, q123_n5, _, q123_S, q123_1, q123_2, q123_3, q123_4, q123_5, q123_8, q123_9⟩ := openP_ref05Disk (x0 := (toR (keepR (fromR d0) d1.toNat) d0.2.2.2.2.2.1).1) (x1 := ((toR (keepR (fromR d0) d1.toNat) d0.2.2.2.2.2.1).2.1).1) (x2 := ((toR (keepR (fromR d0) d1.toNat) d0.2.2.2.2.2.1).2.1).2.1) (x3 := ((toR (keepR (fromR d0) d1.toNat) d0.2.2.2.2.2.1).2.1).2.2.1) (x4 := ((toR (keepR (fromR d0) d1.toNat) d0.2.2.2.2.2.1).2.1).2.2.2) (x5 := []) (x6 := (toR (keepR (fromR d0) d1.toNat) d0.2.2.2.2.2.1).2.2.2.1) (x7 := (toR (keepR (fromR d0) d1.toNat) d0.2.2.2.2.2.1).2.2.2.2.1) (x8 := (toR (keepR (fromR d0) d1.toNat) d0.2.2.2.2.2.1).2.2.2.2.2.1) (x9 := (toR (keepR (fromR d0) d1.toNat) d0.2.2.2.2.2.1).2.2.2.2.2.2) ho122
              have q123_r1 := Rd.room (q123_1.rd (mle_refl _))
              have q123_r2 := Rd.room (q123_2.rd (mle_refl _))
              have q123_r3 := Rd.room (q123_3.rd (mle_refl _))
              have q123_r4 := Rd.room (q123_4.rd (mle_refl _))
              have q123_r5 := Rd.room (q123_5.rd (mle_refl _))
              simp only [inK] at q123_8
              simp only [inK] at q123_9
              refine VO.inv _ (fun _ h => h.parts (i := 222) rfl q123_S [229, 224, 225, 226, 227, 228]) ?_
              refine VO.store (k := 1) (c' := [Value.bool ((toR (keepR (fromR d0) d1.toNat) d0.2.2.2.2.2.1).1), Value.slice q123_A1 ((((toR (keepR (fromR d0) d1.toNat) d0.2.2.2.2.2.1).2.1).1).length) (q123_c1), Value.slice q123_A2 ((((toR (keepR (fromR d0) d1.toNat) d0.2.2.2.2.2.1).2.1).2.1).length) (q123_c2), Value.slice q123_A3 ((((toR (keepR (fromR d0) d1.toNat) d0.2.2.2.2.2.1).2.1).2.2.1).length) (q123_c3), Value.slice q123_A4 ((((toR (keepR (fromR d0) d1.toNat) d0.2.2.2.2.2.1).2.1).2.2.2).length) (q123_c4), Value.slice q123_A5 (([] : List Dref05Raw).length) (q123_c5), Value.bool ((toR (keepR (fromR d0) d1.toNat) d0.2.2.2.2.2.1).2.2.2.1), Value.bool false, Value.int .i64 ((toR (keepR (fromR d0) d1.toNat) d0.2.2.2.2.2.1).2.2.2.2.2.1), Value.int .i64 ((toR (keepR (fromR d0) d1.toNat) d0.2.2.2.2.2.1).2.2.2.2.2.2)]) 229 rfl rfl (.inr ⟨tk4, rfl⟩) rfl rfl rfl rfl rfl ?_
              refine VO.gather (l := [mone g0 (.cells [Value.bool ((toR (keepR (fromR d0) d1.toNat) d0.2.2.2.2.2.1).1), Value.slice q123_A1 ((((toR (keepR (fromR d0) d1.toNat) d0.2.2.2.2.2.1).2.1).1).length) (q123_c1), Value.slice q123_A2 ((((toR (keepR (fromR d0) d1.toNat) d0.2.2.2.2.2.1).2.1).2.1).length) (q123_c2), Value.slice q123_A3 ((((toR (keepR (fromR d0) d1.toNat) d0.2.2.2.2.2.1).2.1).2.2.1).length) (q123_c3), Value.slice q123_A4 ((((toR (keepR (fromR d0) d1.toNat) d0.2.2.2.2.2.1).2.1).2.2.2).length) (q123_c4), Value.slice q123_A5 (([] : List Dref05Raw).length) (q123_c5), Value.bool ((toR (keepR (fromR d0) d1.toNat) d0.2.2.2.2.2.1).2.2.2.1), Value.bool false, Value.int .i64 ((toR (keepR (fromR d0) d1.toNat) d0.2.2.2.2.2.1).2.2.2.2.2.1), Value.int .i64 ((toR (keepR (fromR d0) d1.toNat) d0.2.2.2.2.2.1).2.2.2.2.2.2)].toArray q123_E (0, 0)), q123_n1, q123_n2, q123_n3, q123_n4, q123_n5]) 230 [229, 224, 225, 226, 227, 228] rfl (fun hg130 => ?_)
              have ho130 : Ow (.ptr Tref05Disk) (muns [mone g0 (.cells [Value.bool ((toR (keepR (fromR d0) d1.toNat) d0.2.2.2.2.2.1).1), Value.slice q123_A1 ((((toR (keepR (fromR d0) d1.toNat) d0.2.2.2.2.2.1).2.1).1).length) (q123_c1), Value.slice q123_A2 ((((toR (keepR (fromR d0) d1.toNat) d0.2.2.2.2.2.1).2.1).2.1).length) (q123_c2), Value.slice q123_A3 ((((toR (keepR (fromR d0) d1.toNat) d0.2.2.2.2.2.1).2.1).2.2.1).length) (q123_c3), Value.slice q123_A4 ((((toR (keepR (fromR d0) d1.toNat) d0.2.2.2.2.2.1).2.1).2.2.2).length) (q123_c4), Value.slice q123_A5 (([] : List Dref05Raw).length) (q123_c5), Value.bool ((toR (keepR (fromR d0) d1.toNat) d0.2.2.2.2.2.1).2.2.2.1), Value.bool false, Value.int .i64 ((toR (keepR (fromR d0) d1.toNat) d0.2.2.2.2.2.1).2.2.2.2.2.1), Value.int .i64 ((toR (keepR (fromR d0) d1.toNat) d0.2.2.2.2.2.1).2.2.2.2.2.2)].toArray q123_E (0, 0)), q123_n1, q123_n2, q123_n3, q123_n4, q123_n5]) [.pointer (some ⟨g0, 0, none⟩)] (g0, ((toR (keepR (fromR d0) d1.toNat) d0.2.2.2.2.2.1).1, ((toR (keepR (fromR d0) d1.toNat) d0.2.2.2.2.2.1).2.1), [], (toR (keepR (fromR d0) d1.toNat) d0.2.2.2.2.2.1).2.2.2.1, false, (toR (keepR (fromR d0) d1.toNat) d0.2.2.2.2.2.1).2.2.2.2.2)) := (mkP_ref05Disk ((toR (keepR (fromR d0) d1.toNat) d0.2.2.2.2.2.1).1) (((toR (keepR (fromR d0) d1.toNat) d0.2.2.2.2.2.1).2.1).1) (((toR (keepR (fromR d0) d1.toNat) d0.2.2.2.2.2.1).2.1).2.1) (((toR (keepR (fromR d0) d1.toNat) d0.2.2.2.2.2.1).2.1).2.2.1) (((toR (keepR (fromR d0) d1.toNat) d0.2.2.2.2.2.1).2.1).2.2.2) [] ((toR (keepR (fromR d0) d1.toNat) d0.2.2.2.2.2.1).2.2.2.1) false ((toR (keepR (fromR d0) d1.toNat) d0.2.2.2.2.2.1).2.2.2.2.2.1) ((toR (keepR (fromR d0) d1.toNat) d0.2.2.2.2.2.1).2.2.2.2.2.2) hg130 (OwnL.ow (Ow.ownl q123_1 rfl mnil) rfl) (OwnL.ow (Ow.ownl q123_2 rfl mnil) rfl) (OwnL.ow (Ow.ownl q123_3 rfl mnil) rfl) (OwnL.ow (Ow.ownl q123_4 rfl mnil) rfl) q123_5 (by simp only [inK]; (exact fin3_rStart_ok)) (by simp only [inK]; (exact fin3_rStart_ok)))
              refine VO.k7 0 1 2 6 10 22 43 ?_
              refine VC.rs ?_
              refine VO.mv ?_
              refine VO.y rfl (.nilp rfl) ?_
              refine VO.y rfl (.fa rfl tst68 rfl) ?_
              obtain ⟨q131_E, q131_A1, q131_c1, q131_A2, q131_c2, q131_A3, q131_c3, q131_A4, q131_c4, q131_A5, q131_c5, q131_n1, q131_n2, q131_n3, q131_n4, q131_n5, _, q131_S, q131_1, q131_2, q131_3, q131_4, q131_5, q131_8, q131_9⟩ := openP_ref05Disk (x0 := (toR (keepR (fromR d0) d1.toNat) d0.2.2.2.2.2.1).1) (x1 := ((toR (keepR (fromR d0) d1.toNat) d0.2.2.2.2.2.1).2.1).1) (x2 := ((toR (keepR (fromR d0) d1.toNat) d0.2.2.2.2.2.1).2.1).2.1) (x3 := ((toR (keepR (fromR d0) d1.toNat) d0.2.2.2.2.2.1).2.1).2.2.1) (x4 := ((toR (keepR (fromR d0) d1.toNat) d0.2.2.2.2.2.1).2.1).2.2.2) (x5 := []) (x6 := (toR (keepR (fromR d0) d1.toNat) d0.2.2.2.2.2.1).2.2.2.1) (x7 := false) (x8 := (toR (keepR (fromR d0) d1.toNat) d0.2.2.2.2.2.1).2.2.2.2.2.1) (x9 := (toR (keepR (fromR d0) d1.toNat) d0.2.2.2.2.2.1).2.2.2.2.2.2) ho130
              have q131_r1 := Rd.room (q131_1.rd (mle_refl _))
              have q131_r2 := Rd.room (q131_2.rd (mle_refl _))
              have q131_r3 := Rd.room (q131_3.rd (mle_refl _))
              have q131_r4 := Rd.room (q131_4.rd (mle_refl _))
              have q131_r5 := Rd.room (q131_5.rd (mle_refl _))
              simp only [inK] at q131_8
              simp only [inK] at q131_9
              refine VO.inv _ (fun _ h => h.parts (i := 230) rfl q131_S [237, 232, 233, 234, 235, 236]) ?_
              refine VO.store (k := 1) (c' := [Value.bool ((toR (keepR (fromR d0) d1.toNat) d0.2.2.2.2.2.1).1), Value.slice q131_A1 ((((toR (keepR (fromR d0) d1.toNat) d0.2.2.2.2.2.1).2.1).1).length) (q131_c1), Value.slice q131_A2 ((((toR (keepR (fromR d0) d1.toNat) d0.2.2.2.2.2.1).2.1).2.1).length) (q131_c2), Value.slice q131_A3 ((((toR (keepR (fromR d0) d1.toNat) d0.2.2.2.2.2.1).2.1).2.2.1).length) (q131_c3), Value.slice q131_A4 ((((toR (keepR (fromR d0) d1.toNat) d0.2.2.2.2.2.1).2.1).2.2.2).length) (q131_c4), Value.slice q131_A5 (([] : List Dref05Raw).length) (q131_c5), Value.bool true, Value.bool false, Value.int .i64 ((toR (keepR (fromR d0) d1.toNat) d0.2.2.2.2.2.1).2.2.2.2.2.1), Value.int .i64 ((toR (keepR (fromR d0) d1.toNat) d0.2.2.2.2.2.1).2.2.2.2.2.2)]) 237 rfl rfl (.inr ⟨tk4, rfl⟩) rfl rfl rfl rfl rfl ?_
              refine VO.gather (l := [mone g0 (.cells [Value.bool ((toR (keepR (fromR d0) d1.toNat) d0.2.2.2.2.2.1).1), Value.slice q131_A1 ((((toR (keepR (fromR d0) d1.toNat) d0.2.2.2.2.2.1).2.1).1).length) (q131_c1), Value.slice q131_A2 ((((toR (keepR (fromR d0) d1.toNat) d0.2.2.2.2.2.1).2.1).2.1).length) (q131_c2), Value.slice q131_A3 ((((toR (keepR (fromR d0) d1.toNat) d0.2.2.2.2.2.1).2.1).2.2.1).length) (q131_c3), Value.slice q131_A4 ((((toR (keepR (fromR d0) d1.toNat) d0.2.2.2.2.2.1).2.1).2.2.2).length) (q131_c4), Value.slice q131_A5 (([] : List Dref05Raw).length) (q131_c5), Value.bool true, Value.bool false, Value.int .i64 ((toR (keepR (fromR d0) d1.toNat) d0.2.2.2.2.2.1).2.2.2.2.2.1), Value.int .i64 ((toR (keepR (fromR d0) d1.toNat) d0.2.2.2.2.2.1).2.2.2.2.2.2)].toArray q131_E (0, 0)), q131_n1, q131_n2, q131_n3, q131_n4, q131_n5]) 238 [237, 232, 233, 234, 235, 236] rfl (fun hg138 => ?_)
              have ho138 : Ow (.ptr Tref05Disk) (muns [mone g0 (.cells [Value.bool ((toR (keepR (fromR d0) d1.toNat) d0.2.2.2.2.2.1).1), Value.slice q131_A1 ((((toR (keepR (fromR d0) d1.toNat) d0.2.2.2.2.2.1).2.1).1).length) (q131_c1), Value.slice q131_A2 ((((toR (keepR (fromR d0) d1.toNat) d0.2.2.2.2.2.1).2.1).2.1).length) (q131_c2), Value.slice q131_A3 ((((toR (keepR (fromR d0) d1.toNat) d0.2.2.2.2.2.1).2.1).2.2.1).length) (q131_c3), Value.slice q131_A4 ((((toR (keepR (fromR d0) d1.toNat) d0.2.2.2.2.2.1).2.1).2.2.2).length) (q131_c4), Value.slice q131_A5 (([] : List Dref05Raw).length) (q131_c5), Value.bool true, Value.bool false, Value.int .i64 ((toR (keepR (fromR d0) d1.toNat) d0.2.2.2.2.2.1).2.2.2.2.2.1), Value.int .i64 ((toR (keepR (fromR d0) d1.toNat) d0.2.2.2.2.2.1).2.2.2.2.2.2)].toArray q131_E (0, 0)), q131_n1, q131_n2, q131_n3, q131_n4, q131_n5]) [.pointer (some ⟨g0, 0, none⟩)] (g0, ((toR (keepR (fromR d0) d1.toNat) d0.2.2.2.2.2.1).1, ((toR (keepR (fromR d0) d1.toNat) d0.2.2.2.2.2.1).2.1), [], true, false, (toR (keepR (fromR d0) d1.toNat) d0.2.2.2.2.2.1).2.2.2.2.2)) := (mkP_ref05Disk ((toR (keepR (fromR d0) d1.toNat) d0.2.2.2.2.2.1).1) (((toR (keepR (fromR d0) d1.toNat) d0.2.2.2.2.2.1).2.1).1) (((toR (keepR (fromR d0) d1.toNat) d0.2.2.2.2.2.1).2.1).2.1) (((toR (keepR (fromR d0) d1.toNat) d0.2.2.2.2.2.1).2.1).2.2.1) (((toR (keepR (fromR d0) d1.toNat) d0.2.2.2.2.2.1).2.1).2.2.2) [] true false ((toR (keepR (fromR d0) d1.toNat) d0.2.2.2.2.2.1).2.2.2.2.2.1) ((toR (keepR (fromR d0) d1.toNat) d0.2.2.2.2.2.1).2.2.2.2.2.2) hg138 (OwnL.ow (Ow.ownl q131_1 rfl mnil) rfl) (OwnL.ow (Ow.ownl q131_2 rfl mnil) rfl) (OwnL.ow (Ow.ownl q131_3 rfl mnil) rfl) (OwnL.ow (Ow.ownl q131_4 rfl mnil) rfl) q131_5 (by simp only [inK]; (exact fin3_rStart_ok)) (by simp only [inK]; (exact fin3_rStart_ok)))
              refine VO.k7 0 1 2 6 10 22 43 ?_
              refine VC.rs ?_
              refine VO.as ?_
              refine VO.keep [238, 0] [(238, muns [mone g0 (.cells [Value.bool ((toR (keepR (fromR d0) d1.toNat) d0.2.2.2.2.2.1).1), Value.slice q131_A1 ((((toR (keepR (fromR d0) d1.toNat) d0.2.2.2.2.2.1).2.1).1).length) (q131_c1), Value.slice q131_A2 ((((toR (keepR (fromR d0) d1.toNat) d0.2.2.2.2.2.1).2.1).2.1).length) (q131_c2), Value.slice q131_A3 ((((toR (keepR (fromR d0) d1.toNat) d0.2.2.2.2.2.1).2.1).2.2.1).length) (q131_c3), Value.slice q131_A4 ((((toR (keepR (fromR d0) d1.toNat) d0.2.2.2.2.2.1).2.1).2.2.2).length) (q131_c4), Value.slice q131_A5 (([] : List Dref05Raw).length) (q131_c5), Value.bool true, Value.bool false, Value.int .i64 ((toR (keepR (fromR d0) d1.toNat) d0.2.2.2.2.2.1).2.2.2.2.2.1), Value.int .i64 ((toR (keepR (fromR d0) d1.toNat) d0.2.2.2.2.2.1).2.2.2.2.2.2)].toArray q131_E (0, 0)), q131_n1, q131_n2, q131_n3, q131_n4, q131_n5]), (0, mout (wm W) (m0))] (by kernel_rfl) ?_
              refine VO.k7 0 1 2 6 10 22 43 ?_
              refine VC.ret ?_
              refine ⟨_, _, res_run (rs := [.tmp 6]) rfl (.tmp rfl .nil), fun W_ hI => out_of (l := [muns [mone g0 (.cells [Value.bool ((toR (keepR (fromR d0) d1.toNat) d0.2.2.2.2.2.1).1), Value.slice q131_A1 ((((toR (keepR (fromR d0) d1.toNat) d0.2.2.2.2.2.1).2.1).1).length) (q131_c1), Value.slice q131_A2 ((((toR (keepR (fromR d0) d1.toNat) d0.2.2.2.2.2.1).2.1).2.1).length) (q131_c2), Value.slice q131_A3 ((((toR (keepR (fromR d0) d1.toNat) d0.2.2.2.2.2.1).2.1).2.2.1).length) (q131_c3), Value.slice q131_A4 ((((toR (keepR (fromR d0) d1.toNat) d0.2.2.2.2.2.1).2.1).2.2.2).length) (q131_c4), Value.slice q131_A5 (([] : List Dref05Raw).length) (q131_c5), Value.bool true, Value.bool false, Value.int .i64 ((toR (keepR (fromR d0) d1.toNat) d0.2.2.2.2.2.1).2.2.2.2.2.1), Value.int .i64 ((toR (keepR (fromR d0) d1.toNat) d0.2.2.2.2.2.1).2.2.2.2.2.2)].toArray q131_E (0, 0)), q131_n1, q131_n2, q131_n3, q131_n4, q131_n5]]) hI [238] rfl rfl (mle_refl _) (fun hS_ => ?_)⟩
              dsimp only [packV]
              have hm0_ : (toR (dStart (fromR d0) d1 d2).1 d0.2.2.2.2.2.1 : Dref05Disk) = ((toR (keepR (fromR d0) d1.toNat) d0.2.2.2.2.2.1).1, ((toR (keepR (fromR d0) d1.toNat) d0.2.2.2.2.2.1).2.1), [], true, false, (toR (keepR (fromR d0) d1.toNat) d0.2.2.2.2.2.1).2.2.2.2.2) := by first | rfl | (exact fin0_rStart_ok)
              refine ⟨?_, ?_⟩
              rotate_left
              · rw [hm0_]; exact (Ow.up ho138 (hS_.1 _ (.head _)))
              all_goals (first | rfl | (exact fin1_rStart_ok))
          · -- FFFFF
            refine VO.gN ?_
            refine VO.gN ?_
            refine VO.gN ?_
            refine VO.gN ?_
            refine VO.gN ?_
            refine VO.gN ?_
            refine VO.gN ?_
            refine VO.gN ?_
            refine VO.gN ?_
            refine VO.y rfl (.pF rfl rfl) ?_
            refine VO.gather (l := [mone g0 (.cells [Value.bool ((toR (keepR (fromR d0) d1.toNat) d0.2.2.2.2.2.1).1), Value.slice q17_A1 ((((toR (keepR (fromR d0) d1.toNat) d0.2.2.2.2.2.1).2.1).1).length) (q17_c1), Value.slice q17_A2 ((((toR (keepR (fromR d0) d1.toNat) d0.2.2.2.2.2.1).2.1).2.1).length) (q17_c2), Value.slice q17_A3 ((((toR (keepR (fromR d0) d1.toNat) d0.2.2.2.2.2.1).2.1).2.2.1).length) (q17_c3), Value.slice q17_A4 ((((toR (keepR (fromR d0) d1.toNat) d0.2.2.2.2.2.1).2.1).2.2.2).length) (q17_c4), Value.slice q17_A5 (((toR (keepR (fromR d0) d1.toNat) d0.2.2.2.2.2.1).2.2.1).length) (q17_c5), Value.bool ((toR (keepR (fromR d0) d1.toNat) d0.2.2.2.2.2.1).2.2.2.1), Value.bool ((toR (keepR (fromR d0) d1.toNat) d0.2.2.2.2.2.1).2.2.2.2.1), Value.int .i64 ((toR (keepR (fromR d0) d1.toNat) d0.2.2.2.2.2.1).2.2.2.2.2.1), Value.int .i64 ((toR (keepR (fromR d0) d1.toNat) d0.2.2.2.2.2.1).2.2.2.2.2.2)].toArray q17_E (0, 0)), q17_n1, q17_n2, q17_n3, q17_n4, q17_n5]) 239 [123, 118, 119, 120, 121, 122] rfl (fun hg139 => ?_)
            have ho139 : Ow (.ptr Tref05Disk) (muns [mone g0 (.cells [Value.bool ((toR (keepR (fromR d0) d1.toNat) d0.2.2.2.2.2.1).1), Value.slice q17_A1 ((((toR (keepR (fromR d0) d1.toNat) d0.2.2.2.2.2.1).2.1).1).length) (q17_c1), Value.slice q17_A2 ((((toR (keepR (fromR d0) d1.toNat) d0.2.2.2.2.2.1).2.1).2.1).length) (q17_c2), Value.slice q17_A3 ((((toR (keepR (fromR d0) d1.toNat) d0.2.2.2.2.2.1).2.1).2.2.1).length) (q17_c3), Value.slice q17_A4 ((((toR (keepR (fromR d0) d1.toNat) d0.2.2.2.2.2.1).2.1).2.2.2).length) (q17_c4), Value.slice q17_A5 (((toR (keepR (fromR d0) d1.toNat) d0.2.2.2.2.2.1).2.2.1).length) (q17_c5), Value.bool ((toR (keepR (fromR d0) d1.toNat) d0.2.2.2.2.2.1).2.2.2.1), Value.bool ((toR (keepR (fromR d0) d1.toNat) d0.2.2.2.2.2.1).2.2.2.2.1), Value.int .i64 ((toR (keepR (fromR d0) d1.toNat) d0.2.2.2.2.2.1).2.2.2.2.2.1), Value.int .i64 ((toR (keepR (fromR d0) d1.toNat) d0.2.2.2.2.2.1).2.2.2.2.2.2)].toArray q17_E (0, 0)), q17_n1, q17_n2, q17_n3, q17_n4, q17_n5]) [.pointer (some ⟨g0, 0, none⟩)] (g0, (toR (keepR (fromR d0) d1.toNat) d0.2.2.2.2.2.1)) := (show Ow (.ptr Tref05Disk) _ _ (_, (toR (keepR (fromR d0) d1.toNat) d0.2.2.2.2.2.1)) from (mkP_ref05Disk ((toR (keepR (fromR d0) d1.toNat) d0.2.2.2.2.2.1).1) (((toR (keepR (fromR d0) d1.toNat) d0.2.2.2.2.2.1).2.1).1) (((toR (keepR (fromR d0) d1.toNat) d0.2.2.2.2.2.1).2.1).2.1) (((toR (keepR (fromR d0) d1.toNat) d0.2.2.2.2.2.1).2.1).2.2.1) (((toR (keepR (fromR d0) d1.toNat) d0.2.2.2.2.2.1).2.1).2.2.2) ((toR (keepR (fromR d0) d1.toNat) d0.2.2.2.2.2.1).2.2.1) ((toR (keepR (fromR d0) d1.toNat) d0.2.2.2.2.2.1).2.2.2.1) ((toR (keepR (fromR d0) d1.toNat) d0.2.2.2.2.2.1).2.2.2.2.1) ((toR (keepR (fromR d0) d1.toNat) d0.2.2.2.2.2.1).2.2.2.2.2.1) ((toR (keepR (fromR d0) d1.toNat) d0.2.2.2.2.2.1).2.2.2.2.2.2) hg139 (OwnL.ow (Ow.ownl q17_1 rfl mnil) rfl) (OwnL.ow (Ow.ownl q17_2 rfl mnil) rfl) (OwnL.ow (Ow.ownl q17_3 rfl mnil) rfl) (OwnL.ow (Ow.ownl q17_4 rfl mnil) rfl) q17_5 (by simp only [inK]; (exact fin3_rStart_ok)) (by simp only [inK]; (exact fin3_rStart_ok))))
            refine VO.k7 0 1 2 6 10 22 43 ?_
            refine VC.condF rfl ?_
            refine VC.skip ?_
            refine outN ?_
            refine VC.rs ?_
            refine VO.mv ?_
            refine VO.y rfl (.nilp rfl) ?_
            refine VO.y rfl (.fa rfl tst68 rfl) ?_
            obtain ⟨q140_E, q140_A1, q140_c1, q140_A2, q140_c2, q140_A3, q140_c3, q140_A4, q140_c4, q140_A5, q140_c5, q140_n1, q140_n2, q140_n3, q140_n4, q140_n5, _, q140_S, q140_1, q140_2, q140_3, q140_4, q140_5, q140_8, q140_9⟩ := openP_ref05Disk (x0 := (toR (keepR (fromR d0) d1.toNat) d0.2.2.2.2.2.1).1) (x1 := ((toR (keepR (fromR d0) d1.toNat) d0.2.2.2.2.2.1).2.1).1) (x2 := ((toR (keepR (fromR d0) d1.toNat) d0.2.2.2.2.2.1).2.1).2.1) (x3 := ((toR (keepR (fromR d0) d1.toNat) d0.2.2.2.2.2.1).2.1).2.2.1) (x4 := ((toR (keepR (fromR d0) d1.toNat) d0.2.2.2.2.2.1).2.1).2.2.2) (x5 := (toR (keepR (fromR d0) d1.toNat) d0.2.2.2.2.2.1).2.2.1) (x6 := (toR (keepR (fromR d0) d1.toNat) d0.2.2.2.2.2.1).2.2.2.1) (x7 := (toR (keepR (fromR d0) d1.toNat) d0.2.2.2.2.2.1).2.2.2.2.1) (x8 := (toR (keepR (fromR d0) d1.toNat) d0.2.2.2.2.2.1).2.2.2.2.2.1) (x9 := (toR (keepR (fromR d0) d1.toNat) d0.2.2.2.2.2.1).2.2.2.2.2.2) ho139
            have q140_r1 := Rd.room (q140_1.rd (mle_refl _))
            have q140_r2 := Rd.room (q140_2.rd (mle_refl _))
            have q140_r3 := Rd.room (q140_3.rd (mle_refl _))
            have q140_r4 := Rd.room (q140_4.rd (mle_refl _))
            have q140_r5 := Rd.room (q140_5.rd (mle_refl _))
            simp only [inK] at q140_8
            simp only [inK] at q140_9
            refine VO.inv _ (fun _ h => h.parts (i := 239) rfl q140_S [246, 241, 242, 243, 244, 245]) ?_
            refine VO.store (k := 1) (c' := [Value.bool ((toR (keepR (fromR d0) d1.toNat) d0.2.2.2.2.2.1).1), Value.slice q140_A1 ((((toR (keepR (fromR d0) d1.toNat) d0.2.2.2.2.2.1).2.1).1).length) (q140_c1), Value.slice q140_A2 ((((toR (keepR (fromR d0) d1.toNat) d0.2.2.2.2.2.1).2.1).2.1).length) (q140_c2), Value.slice q140_A3 ((((toR (keepR (fromR d0) d1.toNat) d0.2.2.2.2.2.1).2.1).2.2.1).length) (q140_c3), Value.slice q140_A4 ((((toR (keepR (fromR d0) d1.toNat) d0.2.2.2.2.2.1).2.1).2.2.2).length) (q140_c4), Value.slice none (0) (0), Value.bool ((toR (keepR (fromR d0) d1.toNat) d0.2.2.2.2.2.1).2.2.2.1), Value.bool ((toR (keepR (fromR d0) d1.toNat) d0.2.2.2.2.2.1).2.2.2.2.1), Value.int .i64 ((toR (keepR (fromR d0) d1.toNat) d0.2.2.2.2.2.1).2.2.2.2.2.1), Value.int .i64 ((toR (keepR (fromR d0) d1.toNat) d0.2.2.2.2.2.1).2.2.2.2.2.2)]) 246 rfl rfl (.inr ⟨tk66, rfl⟩) rfl rfl rfl rfl rfl ?_
            refine VO.gather (l := [mone g0 (.cells [Value.bool ((toR (keepR (fromR d0) d1.toNat) d0.2.2.2.2.2.1).1), Value.slice q140_A1 ((((toR (keepR (fromR d0) d1.toNat) d0.2.2.2.2.2.1).2.1).1).length) (q140_c1), Value.slice q140_A2 ((((toR (keepR (fromR d0) d1.toNat) d0.2.2.2.2.2.1).2.1).2.1).length) (q140_c2), Value.slice q140_A3 ((((toR (keepR (fromR d0) d1.toNat) d0.2.2.2.2.2.1).2.1).2.2.1).length) (q140_c3), Value.slice q140_A4 ((((toR (keepR (fromR d0) d1.toNat) d0.2.2.2.2.2.1).2.1).2.2.2).length) (q140_c4), Value.slice none (0) (0), Value.bool ((toR (keepR (fromR d0) d1.toNat) d0.2.2.2.2.2.1).2.2.2.1), Value.bool ((toR (keepR (fromR d0) d1.toNat) d0.2.2.2.2.2.1).2.2.2.2.1), Value.int .i64 ((toR (keepR (fromR d0) d1.toNat) d0.2.2.2.2.2.1).2.2.2.2.2.1), Value.int .i64 ((toR (keepR (fromR d0) d1.toNat) d0.2.2.2.2.2.1).2.2.2.2.2.2)].toArray q140_E (0, 0)), q140_n1, q140_n2, q140_n3, q140_n4]) 247 [246, 241, 242, 243, 244] rfl (fun hg147 => ?_)
            have ho147 : Ow (.ptr Tref05Disk) (muns [mone g0 (.cells [Value.bool ((toR (keepR (fromR d0) d1.toNat) d0.2.2.2.2.2.1).1), Value.slice q140_A1 ((((toR (keepR (fromR d0) d1.toNat) d0.2.2.2.2.2.1).2.1).1).length) (q140_c1), Value.slice q140_A2 ((((toR (keepR (fromR d0) d1.toNat) d0.2.2.2.2.2.1).2.1).2.1).length) (q140_c2), Value.slice q140_A3 ((((toR (keepR (fromR d0) d1.toNat) d0.2.2.2.2.2.1).2.1).2.2.1).length) (q140_c3), Value.slice q140_A4 ((((toR (keepR (fromR d0) d1.toNat) d0.2.2.2.2.2.1).2.1).2.2.2).length) (q140_c4), Value.slice none (0) (0), Value.bool ((toR (keepR (fromR d0) d1.toNat) d0.2.2.2.2.2.1).2.2.2.1), Value.bool ((toR (keepR (fromR d0) d1.toNat) d0.2.2.2.2.2.1).2.2.2.2.1), Value.int .i64 ((toR (keepR (fromR d0) d1.toNat) d0.2.2.2.2.2.1).2.2.2.2.2.1), Value.int .i64 ((toR (keepR (fromR d0) d1.toNat) d0.2.2.2.2.2.1).2.2.2.2.2.2)].toArray q140_E (0, 0)), q140_n1, q140_n2, q140_n3, q140_n4]) [.pointer (some ⟨g0, 0, none⟩)] (g0, ((toR (keepR (fromR d0) d1.toNat) d0.2.2.2.2.2.1).1, ((toR (keepR (fromR d0) d1.toNat) d0.2.2.2.2.2.1).2.1), [], (toR (keepR (fromR d0) d1.toNat) d0.2.2.2.2.2.1).2.2.2)) := (mkP_ref05Disk ((toR (keepR (fromR d0) d1.toNat) d0.2.2.2.2.2.1).1) (((toR (keepR (fromR d0) d1.toNat) d0.2.2.2.2.2.1).2.1).1) (((toR (keepR (fromR d0) d1.toNat) d0.2.2.2.2.2.1).2.1).2.1) (((toR (keepR (fromR d0) d1.toNat) d0.2.2.2.2.2.1).2.1).2.2.1) (((toR (keepR (fromR d0) d1.toNat) d0.2.2.2.2.2.1).2.1).2.2.2) [] ((toR (keepR (fromR d0) d1.toNat) d0.2.2.2.2.2.1).2.2.2.1) ((toR (keepR (fromR d0) d1.toNat) d0.2.2.2.2.2.1).2.2.2.2.1) ((toR (keepR (fromR d0) d1.toNat) d0.2.2.2.2.2.1).2.2.2.2.2.1) ((toR (keepR (fromR d0) d1.toNat) d0.2.2.2.2.2.1).2.2.2.2.2.2) (Seps.nilAt 5 hg147) (OwnL.ow (Ow.ownl q140_1 rfl mnil) rfl) (OwnL.ow (Ow.ownl q140_2 rfl mnil) rfl) (OwnL.ow (Ow.ownl q140_3 rfl mnil) rfl) (OwnL.ow (Ow.ownl q140_4 rfl mnil) rfl) (Ow.nil _ _) (by simp only [inK]; (exact fin3_rStart_ok)) (by simp only [inK]; (exact fin3_rStart_ok)))
            refine VO.keep [247, 0] [(247, muns [mone g0 (.cells [Value.bool ((toR (keepR (fromR d0) d1.toNat) d0.2.2.2.2.2.1).1), Value.slice q140_A1 ((((toR (keepR (fromR d0) d1.toNat) d0.2.2.2.2.2.1).2.1).1).length) (q140_c1), Value.slice q140_A2 ((((toR (keepR (fromR d0) d1.toNat) d0.2.2.2.2.2.1).2.1).2.1).length) (q140_c2), Value.slice q140_A3 ((((toR (keepR (fromR d0) d1.toNat) d0.2.2.2.2.2.1).2.1).2.2.1).length) (q140_c3), Value.slice q140_A4 ((((toR (keepR (fromR d0) d1.toNat) d0.2.2.2.2.2.1).2.1).2.2.2).length) (q140_c4), Value.slice none (0) (0), Value.bool ((toR (keepR (fromR d0) d1.toNat) d0.2.2.2.2.2.1).2.2.2.1), Value.bool ((toR (keepR (fromR d0) d1.toNat) d0.2.2.2.2.2.1).2.2.2.2.1), Value.int .i64 ((toR (keepR (fromR d0) d1.toNat) d0.2.2.2.2.2.1).2.2.2.2.2.1), Value.int .i64 ((toR (keepR (fromR d0) d1.toNat) d0.2.2.2.2.2.1).2.2.2.2.2.2)].toArray q140_E (0, 0)), q140_n1, q140_n2, q140_n3, q140_n4]), (0, mout (wm W) (m0))] (by kernel_rfl) ?_
            refine VO.k7 0 1 2 6 10 22 43 ?_
            refine VC.rs ?_
            refine VO.mv ?_
            refine VO.y rfl (.nilp rfl) ?_
            refine VO.y rfl (.fa rfl tst68 rfl) ?_
            obtain ⟨q148_E, q148_A1, q148_c1, q148_A2, q148_c2, q148_A3, q148_c3, q148_A4, q148_c4, q148_A5, q148_c5, q148_n1, q148_n2, q148_n3, q148_n4, q148_n5, _, q148_S, q148_1, q148_2, q148_3, q148_4, q148_5, q148_8, q148_9⟩ := openP_ref05Disk (x0 := (toR (keepR (fromR d0) d1.toNat) d0.2.2.2.2.2.1).1) (x1 := ((toR (keepR (fromR d0) d1.toNat) d0.2.2.2.2.2.1).2.1).1) (x2 := ((toR (keepR (fromR d0) d1.toNat) d0.2.2.2.2.2.1).2.1).2.1) (x3 := ((toR (keepR (fromR d0) d1.toNat) d0.2.2.2.2.2.1).2.1).2.2.1) (x4 := ((toR (keepR (fromR d0) d1.toNat) d0.2.2.2.2.2.1).2.1).2.2.2) (x5 := []) (x6 := (toR (keepR (fromR d0) d1.toNat) d0.2.2.2.2.2.1).2.2.2.1) (x7 := (toR (keepR (fromR d0) d1.toNat) d0.2.2.2.2.2.1).2.2.2.2.1) (x8 := (toR (keepR (fromR d0) d1.toNat) d0.2.2.2.2.2.1).2.2.2.2.2.1) (x9 := (toR (keepR (fromR d0) d1.toNat) d0.2.2.2.2.2.1).2.2.2.2.2.2) ho147
            have q148_r1 := Rd.room (q148_1.rd (mle_refl _))
            have q148_r2 := Rd.room (q148_2.rd (mle_refl _))
            have q148_r3 := Rd.room (q148_3.rd (mle_refl _))
            have q148_r4 := Rd.room (q148_4.rd (mle_refl _))
            have q148_r5 := Rd.room (q148_5.rd (mle_refl _))
            simp only [inK] at q148_8
            simp only [inK] at q148_9
            refine VO.inv _ (fun _ h => h.parts (i := 247) rfl q148_S [254, 249, 250, 251, 252, 253]) ?_
            refine VO.store (k := 1) (c' := [Value.bool ((toR (keepR (fromR d0) d1.toNat) d0.2.2.2.2.2.1).1), Value.slice q148_A1 ((((toR (keepR (fromR d0) d1.toNat) d0.2.2.2.2.2.1).2.1).1).length) (q148_c1), Value.slice q148_A2 ((((toR (keepR (fromR d0) d1.toNat) d0.2.2.2.2.2.1).2.1).2.1).length) (q148_c2), Value.slice q148_A3 ((((toR (keepR (fromR d0) d1.toNat) d0.2.2.2.2.2.1).2.1).2.2.1).length) (q148_c3), Value.slice q148_A4 ((((toR (keepR (fromR d0) d1.toNat) d0.2.2.2.2.2.1).2.1).2.2.2).length) (q148_c4), Value.slice q148_A5 (([] : List Dref05Raw).length) (q148_c5), Value.bool ((toR (keepR (fromR d0) d1.toNat) d0.2.2.2.2.2.1).2.2.2.1), Value.bool false, Value.int .i64 ((toR (keepR (fromR d0) d1.toNat) d0.2.2.2.2.2.1).2.2.2.2.2.1), Value.int .i64 ((toR (keepR (fromR d0) d1.toNat) d0.2.2.2.2.2.1).2.2.2.2.2.2)]) 254 rfl rfl (.inr ⟨tk4, rfl⟩) rfl rfl rfl rfl rfl ?_
            refine VO.gather (l := [mone g0 (.cells [Value.bool ((toR (keepR (fromR d0) d1.toNat) d0.2.2.2.2.2.1).1), Value.slice q148_A1 ((((toR (keepR (fromR d0) d1.toNat) d0.2.2.2.2.2.1).2.1).1).length) (q148_c1), Value.slice q148_A2 ((((toR (keepR (fromR d0) d1.toNat) d0.2.2.2.2.2.1).2.1).2.1).length) (q148_c2), Value.slice q148_A3 ((((toR (keepR (fromR d0) d1.toNat) d0.2.2.2.2.2.1).2.1).2.2.1).length) (q148_c3), Value.slice q148_A4 ((((toR (keepR (fromR d0) d1.toNat) d0.2.2.2.2.2.1).2.1).2.2.2).length) (q148_c4), Value.slice q148_A5 (([] : List Dref05Raw).length) (q148_c5), Value.bool ((toR (keepR (fromR d0) d1.toNat) d0.2.2.2.2.2.1).2.2.2.1), Value.bool false, Value.int .i64 ((toR (keepR (fromR d0) d1.toNat) d0.2.2.2.2.2.1).2.2.2.2.2.1), Value.int .i64 ((toR (keepR (fromR d0) d1.toNat) d0.2.2.2.2.2.1).2.2.2.2.2.2)].toArray q148_E (0, 0)), q148_n1, q148_n2, q148_n3, q148_n4, q148_n5]) 255 [254, 249, 250, 251, 252, 253] rfl (fun hg155 => ?_)
            have ho155 : Ow (.ptr Tref05Disk) (muns [mone g0 (.cells [Value.bool ((toR (keepR (fromR d0) d1.toNat) d0.2.2.2.2.2.1).1), Value.slice q148_A1 ((((toR (keepR (fromR d0) d1.toNat) d0.2.2.2.2.2.1).2.1).1).length) (q148_c1), Value.slice q148_A2 ((((toR (keepR (fromR d0) d1.toNat) d0.2.2.2.2.2.1).2.1).2.1).length) (q148_c2), Value.slice q148_A3 ((((toR (keepR (fromR d0) d1.toNat) d0.2.2.2.2.2.1).2.1).2.2.1).length) (q148_c3), Value.slice q148_A4 ((((toR (keepR (fromR d0) d1.toNat) d0.2.2.2.2.2.1).2.1).2.2.2).length) (q148_c4), Value.slice q148_A5 (([] : List Dref05Raw).length) (q148_c5), Value.bool ((toR (keepR (fromR d0) d1.toNat) d0.2.2.2.2.2.1).2.2.2.1), Value.bool false, Value.int .i64 ((toR (keepR (fromR d0) d1.toNat) d0.2.2.2.2.2.1).2.2.2.2.2.1), Value.int .i64 ((toR (keepR (fromR d0) d1.toNat) d0.2.2.2.2.2.1).2.2.2.2.2.2)].toArray q148_E (0, 0)), q148_n1, q148_n2, q148_n3, q148_n4, q148_n5]) [.pointer (some ⟨g0, 0, none⟩)] (g0, ((toR (keepR (fromR d0) d1.toNat) d0.2.2.2.2.2.1).1, ((toR (keepR (fromR d0) d1.toNat) d0.2.2.2.2.2.1).2.1), [], (toR (keepR (fromR d0) d1.toNat) d0.2.2.2.2.2.1).2.2.2.1, false, (toR (keepR (fromR d0) d1.toNat) d0.2.2.2.2.2.1).2.2.2.2.2)) := (mkP_ref05Disk ((toR (keepR (fromR d0) d1.toNat) d0.2.2.2.2.2.1).1) (((toR (keepR (fromR d0) d1.toNat) d0.2.2.2.2.2.1).2.1).1) (((toR (keepR (fromR d0) d1.toNat) d0.2.2.2.2.2.1).2.1).2.1) (((toR (keepR (fromR d0) d1.toNat) d0.2.2.2.2.2.1).2.1).2.2.1) (((toR (keepR (fromR d0) d1.toNat) d0.2.2.2.2.2.1).2.1).2.2.2) [] ((toR (keepR (fromR d0) d1.toNat) d0.2.2.2.2.2.1).2.2.2.1) false ((toR (keepR (fromR d0) d1.toNat) d0.2.2.2.2.2.1).2.2.2.2.2.1) ((toR (keepR (fromR d0) d1.toNat) d0.2.2.2.2.2.1).2.2.2.2.2.2) hg155 (OwnL.ow (Ow.ownl q148_1 rfl mnil) rfl) (OwnL.ow (Ow.ownl q148_2 rfl mnil) rfl) (OwnL.ow (Ow.ownl q148_3 rfl mnil) rfl) (OwnL.ow (Ow.ownl q148_4 rfl mnil) rfl) q148_5 (by simp only [inK]; (exact fin3_rStart_ok)) (by simp only [inK]; (exact fin3_rStart_ok)))
            refine VO.k7 0 1 2 6 10 22 43 ?_
            refine VC.rs ?_
            refine VO.mv ?_
            refine VO.y rfl (.nilp rfl) ?_
            refine VO.y rfl (.fa rfl tst68 rfl) ?_
            obtain ⟨q156_E, q156_A1, q156_c1, q156_A2, q156_c2, q156_A3, q156_c3, q156_A4, q156_c4, q156_A5, q156_c5, q156_n1, q156_n2, q156_n3, q156_n4, q156_n5, _, q156_S, q156_1, q156_2, q156_3, q156_4, q156_5, q156_8, q156_9⟩ := openP_ref05Disk (x0 := (toR (keepR (fromR d0) d1.toNat) d0.2.2.2.2.2.1).1) (x1 := ((toR (keepR (fromR d0) d1.toNat) d0.2.2.2.2.2.1).2.1).1) (x2 := ((toR (keepR (fromR d0) d1.toNat) d0.2.2.2.2.2.1).2.1).2.1) (x3 := ((toR (keepR (fromR d0) d1.toNat) d0.2.2.2.2.2.1).2.1).2.2.1) (x4 := ((toR (keepR (fromR d0) d1.toNat) d0.2.2.2.2.2.1).2.1).2.2.2) (x5 := []) (x6 := (toR (keepR (fromR d0) d1.toNat) d0.2.2.2.2.2.1).2.2.2.1) (x7 := false) (x8 := (toR (keepR (fromR d0) d1.toNat) d0.2.2.2.2.2.1).2.2.2.2.2.1) (x9 := (toR (keepR (fromR d0) d1.toNat) d0.2.2.2.2.2.1).2.2.2.2.2.2) ho155
            have q156_r1 := Rd.room (q156_1.rd (mle_refl _))
            have q156_r2 := Rd.room (q156_2.rd (mle_refl _))
            have q156_r3 := Rd.room (q156_3.rd (mle_refl _))
            have q156_r4 := Rd.room (q156_4.rd (mle_refl _))
            have q156_r5 := Rd.room (q156_5.rd (mle_refl _))
            simp only [inK] at q156_8
            simp only [inK] at q156_9
            refine VO.inv _ (fun _ h => h.parts (i := 255) rfl q156_S [262, 257, 258, 259, 260, 261]) ?_
            refine VO.store (k := 1) (c' := [Value.bool ((toR (keepR (fromR d0) d1.toNat) d0.2.2.2.2.2.1).1), Value.slice q156_A1 ((((toR (keepR (fromR d0) d1.toNat) d0.2.2.2.2.2.1).2.1).1).length) (q156_c1), Value.slice q156_A2 ((((toR (keepR (fromR d0) d1.toNat) d0.2.2.2.2.2.1).2.1).2.1).length) (q156_c2), Value.slice q156_A3 ((((toR (keepR (fromR d0) d1.toNat) d0.2.2.2.2.2.1).2.1).2.2.1).length) (q156_c3), Value.slice q156_A4 ((((toR (keepR (fromR d0) d1.toNat) d0.2.2.2.2.2.1).2.1).2.2.2).length) (q156_c4), Value.slice q156_A5 (([] : List Dref05Raw).length) (q156_c5), Value.bool true, Value.bool false, Value.int .i64 ((toR (keepR (fromR d0) d1.toNat) d0.2.2.2.2.2.1).2.2.2.2.2.1), Value.int .i64 ((toR (keepR (fromR d0) d1.toNat) d0.2.2.2.2.2.1).2.2.2.2.2.2)]) 262 rfl rfl (.inr ⟨tk4, rfl⟩) rfl rfl rfl rfl rfl ?_
            refine VO.gather (l := [mone g0 (.cells [Value.bool ((toR (keepR (fromR d0) d1.toNat) d0.2.2.2.2.2.1).1), Value.slice q156_A1 ((((toR (keepR (fromR d0) d1.toNat) d0.2.2.2.2.2.1).2.1).1).length) (q156_c1), Value.slice q156_A2 ((((toR (keepR (fromR d0) d1.toNat) d0.2.2.2.2.2.1).2.1).2.1).length) (q156_c2), Value.slice q156_A3 ((((toR (keepR (fromR d0) d1.toNat) d0.2.2.2.2.2.1).2.1).2.2.1).length) (q156_c3), Value.slice q156_A4 ((((toR (keepR (fromR d0) d1.toNat) d0.2.2.2.2.2.1).2.1).2.2.2).length) (q156_c4), Value.slice q156_A5 (([] : List Dref05Raw).length) (q156_c5), Value.bool true, Value.bool false, Value.int .i64 ((toR (keepR (fromR d0) d1.toNat) d0.2.2.2.2.2.1).2.2.2.2.2.1), Value.int .i64 ((toR (keepR (fromR d0) d1.toNat) d0.2.2.2.2.2.1).2.2.2.2.2.2)].toArray q156_E (0, 0)), q156_n1, q156_n2, q156_n3, q156_n4, q156_n5]) 263 [262, 257, 258, 259, 260, 261] rfl (fun hg163 => ?_)
            have ho163 : Ow (.ptr Tref05Disk) (muns [mone g0 (.cells [Value.bool ((toR (keepR (fromR d0) d1.toNat) d0.2.2.2.2.2.1).1), Value.slice q156_A1 ((((toR (keepR (fromR d0) d1.toNat) d0.2.2.2.2.2.1).2.1).1).length) (q156_c1), Value.slice q156_A2 ((((toR (keepR (fromR d0) d1.toNat) d0.2.2.2.2.2.1).2.1).2.1).length) (q156_c2), Value.slice q156_A3 ((((toR (keepR (fromR d0) d1.toNat) d0.2.2.2.2.2.1).2.1).2.2.1).length) (q156_c3), Value.slice q156_A4 ((((toR (keepR (fromR d0) d1.toNat) d0.2.2.2.2.2.1).2.1).2.2.2).length) (q156_c4), Value.slice q156_A5 (([] : List Dref05Raw).length) (q156_c5), Value.bool true, Value.bool false, Value.int .i64 ((toR (keepR (fromR d0) d1.toNat) d0.2.2.2.2.2.1).2.2.2.2.2.1), Value.int .i64 ((toR (keepR (fromR d0) d1.toNat) d0.2.2.2.2.2.1).2.2.2.2.2.2)].toArray q156_E (0, 0)), q156_n1, q156_n2, q156_n3, q156_n4, q156_n5]) [.pointer (some ⟨g0, 0, none⟩)] (g0, ((toR (keepR (fromR d0) d1.toNat) d0.2.2.2.2.2.1).1, ((toR (keepR (fromR d0) d1.toNat) d0.2.2.2.2.2.1).2.1), [], true, false, (toR (keepR (fromR d0) d1.toNat) d0.2.2.2.2.2.1).2.2.2.2.2)) := (mkP_ref05Disk ((toR (keepR (fromR d0) d1.toNat) d0.2.2.2.2.2.1).1) (((toR (keepR (fromR d0) d1.toNat) d0.2.2.2.2.2.1).2.1).1) (((toR (keepR (fromR d0) d1.toNat) d0.2.2.2.2.2.1).2.1).2.1) (((toR (keepR (fromR d0) d1.toNat) d0.2.2.2.2.2.1).2.1).2.2.1) (((toR (keepR (fromR d0) d1.toNat) d0.2.2.2.2.2.1).2.1).2.2.2) [] true false ((toR (keepR (fromR d0) d1.toNat) d0.2.2.2.2.2.1).2.2.2.2.2.1) ((toR (keepR (fromR d0) d1.toNat) d0.2.2.2.2.2.1).2.2.2.2.2.2) hg163 (OwnL.ow (Ow.ownl q156_1 rfl mnil) rfl) (OwnL.ow (Ow.ownl q156_2 rfl mnil) rfl) (OwnL.ow (Ow.ownl q156_3 rfl mnil) rfl) (OwnL.ow (Ow.ownl q156_4 rfl mnil) rfl) q156_5 (by simp only [inK]; (exact fin3_rStart_ok)) (by simp only [inK]; (exact fin3_rStart_ok)))
            refine VO.k7 0 1 2 6 10 22 43 ?_
            refine VC.rs ?_
            refine VO.as ?_
            refine VO.keep [263, 0] [(263, muns [mone g0 (.cells [Value.bool ((toR (keepR (fromR d0) d1.toNat) d0.2.2.2.2.2.1).1), Value.slice q156_A1 ((((toR (keepR (fromR d0) d1.toNat) d0.2.2.2.2.2.1).2.1).1).length) (q156_c1), Value.slice q156_A2 ((((toR (keepR (fromR d0) d1.toNat) d0.2.2.2.2.2.1).2.1).2.1).length) (q156_c2), Value.slice q156_A3 ((((toR (keepR (fromR d0) d1.toNat) d0.2.2.2.2.2.1).2.1).2.2.1).length) (q156_c3), Value.slice q156_A4 ((((toR (keepR (fromR d0) d1.toNat) d0.2.2.2.2.2.1).2.1).2.2.2).length) (q156_c4), Value.slice q156_A5 (([] : List Dref05Raw).length) (q156_c5), Value.bool true, Value.bool false, Value.int .i64 ((toR (keepR (fromR d0) d1.toNat) d0.2.2.2.2.2.1).2.2.2.2.2.1), Value.int .i64 ((toR (keepR (fromR d0) d1.toNat) d0.2.2.2.2.2.1).2.2.2.2.2.2)].toArray q156_E (0, 0)), q156_n1, q156_n2, q156_n3, q156_n4, q156_n5]), (0, mout (wm W) (m0))] (by kernel_rfl) ?_
            refine VO.k7 0 1 2 6 10 22 43 ?_
            refine VC.ret ?_
            refine ⟨_, _, res_run (rs := [.tmp 6]) rfl (.tmp rfl .nil), fun W_ hI => out_of (l := [muns [mone g0 (.cells [Value.bool ((toR (keepR (fromR d0) d1.toNat) d0.2.2.2.2.2.1).1), Value.slice q156_A1 ((((toR (keepR (fromR d0) d1.toNat) d0.2.2.2.2.2.1).2.1).1).length) (q156_c1), Value.slice q156_A2 ((((toR (keepR (fromR d0) d1.toNat) d0.2.2.2.2.2.1).2.1).2.1).length) (q156_c2), Value.slice q156_A3 ((((toR (keepR (fromR d0) d1.toNat) d0.2.2.2.2.2.1).2.1).2.2.1).length) (q156_c3), Value.slice q156_A4 ((((toR (keepR (fromR d0) d1.toNat) d0.2.2.2.2.2.1).2.1).2.2.2).length) (q156_c4), Value.slice q156_A5 (([] : List Dref05Raw).length) (q156_c5), Value.bool true, Value.bool false, Value.int .i64 ((toR (keepR (fromR d0) d1.toNat) d0.2.2.2.2.2.1).2.2.2.2.2.1), Value.int .i64 ((toR (keepR (fromR d0) d1.toNat) d0.2.2.2.2.2.1).2.2.2.2.2.2)].toArray q156_E (0, 0)), q156_n1, q156_n2, q156_n3, q156_n4, q156_n5]]) hI [263] rfl rfl (mle_refl _) (fun hS_ => ?_)⟩
            dsimp only [packV]
            have hm0_ : (toR (dStart (fromR d0) d1 d2).1 d0.2.2.2.2.2.1 : Dref05Disk) = ((toR (keepR (fromR d0) d1.toNat) d0.2.2.2.2.2.1).1, ((toR (keepR (fromR d0) d1.toNat) d0.2.2.2.2.2.1).2.1), [], true, false, (toR (keepR (fromR d0) d1.toNat) d0.2.2.2.2.2.1).2.2.2.2.2) := by first | rfl | (exact fin0_rStart_ok)
            refine ⟨?_, ?_⟩
            rotate_left
            · rw [hm0_]; exact (Ow.up ho163 (hS_.1 _ (.head _)))
            all_goals (first | rfl | (exact fin1_rStart_ok))
end
section
set_option linter.unusedVariables false
set_option linter.unusedSimpArgs false
set_option maxRecDepth 4000
theorem fnOk21 : fnOk Try.prog 21 = true := by kernel_rfl
theorem fnOk23 : fnOk Try.prog 23 = true := by kernel_rfl
theorem fnOk24 : fnOk Try.prog 24 = true := by kernel_rfl
theorem fnOk29 : fnOk Try.prog 29 = true := by kernel_rfl
theorem fnOk8 : fnOk Try.prog 8 = true := by kernel_rfl
theorem fnOk9 : fnOk Try.prog 9 = true := by kernel_rfl
theorem tk25 : tk Try.prog 25 = some none := by kernel_rfl
theorem tk31 : tk Try.prog 31 = some (some 5) := by kernel_rfl
end
section
set_option linter.unusedVariables false
theorem over_set {α : Type} {f : α → α} {d l : List α} {k : Nat} {x : α} (hl : l = (d.take k).map f ++ d.drop k) (hx : l[k]? = some x) : d[k]? = some x ∧ l.set k (f x) = (d.take (k + 1)).map f ++ d.drop (k + 1) := by
  subst hl
  have hk : k < d.length := by
    have := (List.getElem?_eq_some_iff.1 hx).1
    simp at this; omega
  have hlen : ((d.take k).map f).length = k := by simp; omega
  rw [List.getElem?_append_right (by omega), hlen, Nat.sub_self, List.getElem?_drop, Nat.add_zero] at hx
  refine ⟨hx, ?_⟩
  obtain ⟨_, hx'⟩ := List.getElem?_eq_some_iff.1 hx
  rw [List.set_append_right _ _ (by omega), hlen, Nat.sub_self, List.drop_eq_getElem_cons hk, List.set_cons_zero, List.take_succ_eq_append_getElem hk, List.map_append, List.append_assoc, hx']
  rfl
theorem over_next {d l : Bytes} {k : Nat} {x : UInt8} (hl : l = (d.take k).map cplB ++ d.drop k) (hx : l[k]? = some x) : l.set k (UInt8.ofNat (255 - x.toNat)) = (d.take (k + 1)).map cplB ++ d.drop (k + 1) := (over_set hl hx).2
theorem over_more {α : Type} {d l : List α} {x : α} (h : ∃ j, l = d ++ List.replicate j x) : ∃ j, l ++ [x] = d ++ List.replicate j x := by
  obtain ⟨j, rfl⟩ := h
  exact ⟨j + 1, by rw [List.replicate_succ', List.append_assoc]⟩
theorem fill_next {α : Type} {was d : List α} {i : Nat} {x y : α} (h : was = d.take i ++ List.replicate (d.length - i) y) (hx : d[i]? = some x) : was.set i x = d.take (i + 1) ++ List.replicate (d.length - (i + 1)) y := by
  subst h
  obtain ⟨hi, hx'⟩ := List.getElem?_eq_some_iff.1 hx
  rw [List.set_append_right _ _ (by simp; omega), List.length_take, Nat.min_eq_left (by omega), Nat.sub_self, show d.length - i = (d.length - (i + 1)) + 1 by omega, List.replicate_succ, List.set_cons_zero, List.take_succ_eq_append_getElem hi, hx', List.append_assoc]
  rfl
theorem fill_all {α : Type} {was d : List α} {i : Nat} {y : α} (h : was = d.take i ++ List.replicate (d.length - i) y) (hi : d.length ≤ i) : was = d := by
  rw [h, List.take_of_length_le hi, show d.length - i = 0 by omega]; simp
theorem over_all {α : Type} {f : α → α} {d l : List α} {k : Nat} (hl : l = (d.take k).map f ++ d.drop k) (hk : d.length ≤ k) : l = d.map f := by
  rw [hl, List.take_of_length_le hk, List.drop_of_length_le hk, List.append_nil]
section
variable {α : Type} {f : α → α} {d l was : List (List α)} {i k : Nat} {x y : List α} {a b : α}
theorem apart_at (hl : l = d.map (List.map f)) (hw : was = d) (hx : l[i]? = some x) (hy : was[i]? = some y) : x = y.map f := by
  subst hl; subst hw
  rw [List.getElem?_map, hy] at hx
  exact (Option.some.inj hx).symm
theorem apart_len (hl : l = d.map (List.map f)) (hw : was = d) (hx : l[i]? = some x) (hy : was[i]? = some y) : x.length = y.length := by rw [apart_at hl hw hx hy, List.length_map]
theorem apart_eq (hl : l = d.map (List.map f)) (hw : was = d) (hx : l[i]? = some x) (hy : was[i]? = some y) (hxk : x[k]? = some a) (hyk : y[k]? = some b) : a = f b := by
  rw [apart_at hl hw hx hy, List.getElem?_map, hyk] at hxk
  exact (Option.some.inj hxk).symm
end
theorem apart_same {α : Type} {f : α → α} {d l was : List α} {k : Nat} {x y : α} (hl : l = (d.take k).map f ++ d.drop k) (hw : was = d) (hx : l[k]? = some x) (hy : was[k]? = some y) : x = y := by
  subst hw
  have := (over_set hl hx).1
  rw [hy] at this
  exact (Option.some.inj this).symm
theorem cplB_toNat (b : UInt8) : (cplB b).toNat = 255 - b.toNat := by
  have := b.toNat_lt
  unfold cplB; simp; omega
end
section
set_option linter.unusedVariables false
set_option linter.unusedSimpArgs false
set_option maxRecDepth 4000
theorem fnOk32 : fnOk Try.prog 32 = true := by kernel_rfl
theorem tsl54 : tsl Try.prog 54 = some (27, 1, 24) := by kernel_rfl
theorem tz27 : tz Try.prog 27 = some [.slice none 0 0] := by kernel_rfl
theorem OverBytes_ok (W : World) {m0 : Mem} (hm : mle (m0) (wm W)) {v0 : Value} {d0 : List UInt8} (h0 : Ow (.sl .byte) m0 [v0] d0) : CallR Try.prog 32 [v0] W (m0) (fun v m' => v = .tuple #[] ∧ Ow (.sl .byte) m' [v0] (d0.map cplB)) := by
  obtain ⟨A0, c0, e0_, l0, k0⟩ := h0.slice
  subst e0_
  simp only [maxLen] at k0
  refine CallR.ofB (n := 27) hm Try.func32 rfl rfl rfl ?_
  refine VC.rs ?_
  refine VO.mv ?_
  refine VO.y rfl (.capS rfl tsl27) ?_
  refine VO.as ?_
  refine VO.k2 0 2 ?_
  refine VC.seq ?_
  refine VC.rs ?_
  refine VO.as ?_
  refine VO.k3 0 2 3 ?_
  refine VC.block ?_
  refine VC.loop (G := Nat × (List UInt8) × Mem) (fun g => [(0, Value.slice A0 (d0.length) (c0)), (3, Value.int .i64 ((((g.1) : Nat) : Int))), (0, Value.slice A0 (d0.length) (c0)), (2, Value.int .i64 (((c0 : Nat) : Int)))]) (fun g => [(0, mout (wm W) (m0)), (1, (g.2.2))]) (fun g => ((g.1) ≤ d0.length) ∧ ((g.2.1) = (d0.take (g.1)).map cplB ++ d0.drop (g.1)) ∧ (OwnL .byte (g.2.2) mnil (.slice A0 (d0.length) (c0)) (g.2.1))) (fun g => d0.length - (g.1)) (0, d0, m0) (⟨by omega, by simp, (Ow.ownl h0 rfl mnil)⟩) ⟨⟨rfl, rfl, rfl, rfl, trivial⟩, fun _ h => h.sub [0, 1]⟩ ?_
  rintro ⟨k, l, l_m⟩ ⟨hk, hl, h_l⟩
  replace hk : k ≤ d0.length := hk
  replace hl : l = (d0.take k).map cplB ++ d0.drop k := hl
  replace h_l : OwnL .byte l_m mnil (.slice A0 (d0.length) (c0)) l := h_l
  show VC _ _ _ _ _ [(0, Value.slice A0 (d0.length) (c0)), (3, Value.int .i64 (((k : Nat) : Int))), (0, Value.slice A0 (d0.length) (c0)), (2, Value.int .i64 (((c0 : Nat) : Int)))] [(0, mout (wm W) (m0)), (1, l_m)]
  have ll_l := slice_len (OwnL.ow h_l rfl)
  refine VC.seq ?_
  refine VC.rs ?_
  refine VO.mv ?_
  refine VO.mv ?_
  refine VO.y rfl (.lenS rfl tsl27) ?_
  refine VO.y rfl (.lss rfl rfl) ?_
  refine VO.keep [0, 1] [(0, mout (wm W) (m0)), (1, l_m)] (by kernel_rfl) ?_
  refine VO.k4 0 2 3 9 ?_
  refine VC.cond rfl (fun hc1 => ?_) (fun hc1 => ?_)
  · -- T
    refine VC.skip ?_
    refine outN ?_
    refine VC.seq ?_
    refine VC.block ?_
    refine VC.reg ?_
    refine VO.mv ?_
    refine VO.mv ?_
    refine VO.mv ?_
    refine VO.mv ?_
    obtain ⟨x2, hx2⟩ : ∃ z_, (l)[k]? = some z_ := ⟨_, List.getElem?_eq_getElem bd⟩
    obtain ⟨gg2, oo2, ec2, ea2, hce2, hre2⟩ := h_l.elem hx2
    cases ea2
    obtain rfl := (show _ = _ from hre2)
    have xb2 := x2.toNat_lt
    refine VO.y rfl (.ixI k rfl rfl tsl27 rfl bd) ?_
    refine VO.y rfl (.ld1 1 rfl tk5 rfl hce2) ?_
    refine VO.y rfl (.cplB rfl bd) ?_
    refine VO.y rfl (.ixI k rfl rfl tsl27 rfl bd) ?_
    refine VO.upd (e := .byte) (k := 1) (i := k) (x' := UInt8.ofNat (255 - x2.toNat)) 1 0 rfl rfl (.inr ⟨tk5, rfl⟩) rfl rfl rfl (OwnL.ow h_l rfl) rfl hx2 rfl (fun mi ec he => upd1 he rfl rfl (rd_byteN bd)) (fun mu4 hu4 => ?_)
    have hl4 := slice_len hu4
    refine VO.k4 0 2 3 9 ?_
    refine outBN ?_
    refine outN ?_
    refine VC.reg ?_
    refine VO.mv ?_
    refine VO.y rfl (.add (c := ((k + 1 : Nat) : Int)) rfl rfl (by omega) ⟨bd, bd⟩) ?_
    refine VO.as ?_
    refine VO.k4 0 2 3 9 ?_
    exact outN ⟨⟨k + 1, (l).set k (UInt8.ofNat (255 - x2.toNat)), mu4⟩, ⟨by omega, by exact over_next hl ‹l[k]? = some _›, (Ow.ownl hu4 rfl mnil)⟩, bd, ⟨⟨rfl, rfl, rfl, rfl, trivial⟩, fun _ h => Inv.sub h [0, 1]⟩⟩
  · -- F
    refine VC.exit ?_
    refine outE ?_
    refine outE ?_
    refine outBB ?_
    refine outN ?_
    refine VC.block ?_
    refine VC.loop (G := (List UInt8) × Mem × Nat) (fun g => [(0, Value.slice A0 ((g.2.2)) (c0)), (2, Value.int .i64 (((c0 : Nat) : Int))), (3, Value.int .i64 (((k : Nat) : Int))), (9, Value.bool (decide (((k : Nat) : Int) < ((d0.length : Nat) : Int))))]) (fun g => [(0, mout (wm W) (m0)), (1, (g.2.1))]) (fun g => (∃ j, (g.1) = d0.map cplB ++ List.replicate j 99) ∧ ((g.2.2) ≤ c0) ∧ (OwnL .byte (g.2.1) mnil (.slice A0 ((g.2.2)) (c0)) (g.1))) (fun g => c0 - (g.2.2)) (l, l_m, d0.length) (⟨by (exact ⟨0, by rw [hl, List.take_of_length_le (by omega), List.drop_of_length_le (by omega)]; simp⟩), by omega, h_l⟩) ⟨⟨rfl, rfl, rfl, rfl, trivial⟩, fun _ h => h.sub [0, 1]⟩ ?_
    rintro ⟨l2, l2_m, l2_n⟩ ⟨hl2, hc, h_l2⟩
    replace hl2 : ∃ j, l2 = d0.map cplB ++ List.replicate j 99 := hl2
    replace hc : l2_n ≤ c0 := hc
    replace h_l2 : OwnL .byte l2_m mnil (.slice A0 (l2_n) (c0)) l2 := h_l2
    show VC _ _ _ _ _ [(0, Value.slice A0 (l2_n) (c0)), (2, Value.int .i64 (((c0 : Nat) : Int))), (3, Value.int .i64 (((k : Nat) : Int))), (9, Value.bool (decide (((k : Nat) : Int) < ((d0.length : Nat) : Int))))] [(0, mout (wm W) (m0)), (1, l2_m)]
    have ll_l2 := slice_len (OwnL.ow h_l2 rfl)
    refine VC.seq ?_
    refine VC.rs ?_
    refine VO.mv ?_
    refine VO.y rfl (.lenS rfl tsl27) ?_
    refine VO.mv ?_
    refine VO.y rfl (.lss rfl rfl) ?_
    refine VO.k5 0 2 3 9 23 ?_
    refine VC.cond rfl (fun hc5 => ?_) (fun hc5 => ?_)
    · -- FT
      refine VC.skip ?_
      refine outN ?_
      refine VC.block ?_
      refine VC.reg ?_
      refine VO.mv ?_
      refine VO.bsl (cs := [Value.int .u8 (99)]) 107 rfl rfl tsl27 tz5 rfl rfl (fun g6 => ?_)
      refine VO.inv ((109, mnil) :: _) (fun _ h => h.nilc 109) ?_
      have hxl8 := slice_len (OwnL.ow h_l2 rfl)
      refine VO.appI (e := .byte) (xs := l2) (cap := c0) (A := A0) (l := l2_n) 1 109 107 rfl rfl rfl tsl27 rfl rfl rfl (OwnL.ow h_l2 rfl) (Ow.of (m := mnil) rfl (rd_byteN bd)) Try.underlying27 (cellsAt_one rfl rfl) bd (fun m8 ho8 => ?_)
      refine VO.as ?_
      refine VO.k5 0 2 3 9 23 ?_
      refine outBN ?_
      exact outN ⟨⟨l2 ++ [UInt8.ofNat 99], m8, l2_n + 1⟩, ⟨by exact over_more hl2, by dsimp only; omega, (Ow.ownl ho8 rfl mnil)⟩, by (dsimp only; omega), ⟨⟨rfl, rfl, rfl, rfl, trivial⟩, fun _ h => Inv.sub h [0, 1]⟩⟩
    · -- FF
      refine VC.exit ?_
      refine outE ?_
      refine outE ?_
      refine outBB ?_
      have hcut0 := Ow.pre (j := d0.length) (OwnL.ow h_l2 rfl) bd
      refine ⟨_, _, res_run (rs := []) rfl .nil, fun W_ hI => out_of (l := [l2_m]) hI [1] rfl rfl (mle_refl _) (fun hS_ => ?_)⟩
      dsimp only [packV]
      have hm0_ : (d0.map cplB : Ty.Den (.sl .byte)) = (l2).take d0.length := by first | rfl | (obtain ⟨j, rfl⟩ := hl2; simp)
      refine ⟨?_, ?_⟩
      rotate_left
      · rw [hm0_]; exact (Ow.up hcut0 (hS_.1 _ (.head _)))
      all_goals (first | rfl | (simp [*]; done))
theorem fin0_ApartBytes_ok {P : Prop} (h : P := by first | omega | (simp only [List.length_append, List.length_nil, List.length_cons, List.length_take, List.length_drop] at *; omega) | (have h_ := apart_len hl4 hw4 ‹l[_]? = some _› ‹was[_]? = some _›; omega) | (exact e1 _ (List.mem_of_getElem? ‹d0[_]? = some _›))) : P := h
theorem ApartBytes_ok (W : World) {m0 : Mem} (hm : mle (m0) (wm W)) {v0 : Value} {d0 : List (List UInt8)} (h0 : Ow (.sl (.sl .byte)) m0 [v0] d0) (e0 : d0.length ≤ 1000) (e1 : ∀ x ∈ d0, x.length ≤ 140737488355000) : CallR Try.prog 34 [v0] W (m0) (fun v m' => v = .bool true) := by
  obtain ⟨A0, c0, e0_, l0, k0⟩ := h0.slice
  subst e0_
  simp only [maxLen] at k0
  refine CallR.ofB (n := 77) hm Try.func34 rfl rfl rfl ?_
  refine VC.rs ?_
  refine VO.as ?_
  refine VO.k2 0 2 ?_
  refine VC.rs ?_
  refine VO.mv ?_
  refine VO.y rfl (.lenS rfl tsl54) ?_
  refine VO.mks (e := (.sl .byte)) (a := ((d0.length : Nat) : Int)) (k := d0.length) 101 rfl rfl rfl rfl tsl54 tz27 (y := []) (Ow.nil _ mnil) (by simp only [maxLen]; (exact fin0_ApartBytes_ok)) (by exact fin0_ApartBytes_ok) (by decide) (fun v1 m1 hk1 => ?_)
  obtain ⟨A1, c1, rfl, l1, k1⟩ := hk1.slice
  simp only [maxLen] at k1
  have ln1 : (List.replicate d0.length ([] : List UInt8)).length = d0.length := List.length_replicate
  refine VO.as ?_
  refine VO.k3 0 2 3 ?_
  refine VC.seq ?_
  refine VC.rs ?_
  refine VO.as ?_
  refine VO.keep [101, 0, 1] [(101, m1), (0, mout (wm W) (m0)), (1, m0)] (by kernel_rfl) ?_
  refine VO.k4 0 2 3 4 ?_
  refine VC.block ?_
  refine VC.loop (G := Nat × (List (List UInt8)) × Mem) (fun g => [(3, Value.slice A1 ((List.replicate d0.length ([] : List UInt8)).length) (c1)), (4, Value.int .i64 ((((g.1) : Nat) : Int))), (0, Value.slice A0 (d0.length) (c0)), (2, Value.bool false), (3, Value.slice A1 ((List.replicate d0.length ([] : List UInt8)).length) (c1))]) (fun g => [(101, (g.2.2)), (0, mout (wm W) (m0)), (1, m0)]) (fun g => ((g.1) ≤ d0.length) ∧ ((g.2.1) = d0.take (g.1) ++ List.replicate (d0.length - (g.1)) []) ∧ (Ow (.sl (.sl .byte)) (g.2.2) [.slice A1 ((List.replicate d0.length ([] : List UInt8)).length) (c1)] (g.2.1))) (fun g => d0.length - (g.1)) (0, List.replicate d0.length ([] : List UInt8), m1) (⟨by omega, by simp, hk1⟩) ⟨⟨rfl, rfl, rfl, rfl, rfl, trivial⟩, fun _ h => h.sub [101, 0, 1]⟩ ?_
  rintro ⟨i, was, was_m⟩ ⟨hi, hw, h_was⟩
  replace hi : i ≤ d0.length := hi
  replace hw : was = d0.take i ++ List.replicate (d0.length - i) [] := hw
  replace h_was : Ow (.sl (.sl .byte)) was_m [.slice A1 ((List.replicate d0.length ([] : List UInt8)).length) (c1)] was := h_was
  show VC _ _ _ _ _ [(3, Value.slice A1 ((List.replicate d0.length ([] : List UInt8)).length) (c1)), (4, Value.int .i64 (((i : Nat) : Int))), (0, Value.slice A0 (d0.length) (c0)), (2, Value.bool false), (3, Value.slice A1 ((List.replicate d0.length ([] : List UInt8)).length) (c1))] [(101, was_m), (0, mout (wm W) (m0)), (1, m0)]
  have ll_was := slice_len h_was
  refine VC.seq ?_
  refine VC.rs ?_
  refine VO.mv ?_
  refine VO.mv ?_
  refine VO.y rfl (.lenS rfl tsl54) ?_
  refine VO.y rfl (.lss rfl rfl) ?_
  refine VO.k5 0 2 3 4 14 ?_
  refine VC.cond rfl (fun hc2 => ?_) (fun hc2 => ?_)
  · -- T
    refine VC.skip ?_
    refine outN ?_
    refine VC.seq ?_
    refine VC.block ?_
    refine VC.reg ?_
    refine VO.mv ?_
    refine VO.mv ?_
    refine VO.mv ?_
    refine VO.mv ?_
    obtain ⟨x3, hx3⟩ : ∃ z_, (d0)[i]? = some z_ := ⟨_, List.getElem?_eq_getElem (by exact fin0_ApartBytes_ok)⟩
    obtain ⟨gg3, oo3, ec3, ea3, hce3, hre3⟩ := (Ow.rd h0 (mle_refl _)).elem hx3
    cases ea3
    have hr3 := hre3
    obtain ⟨A3_, c3_, rfl, _⟩ := hre3
    have rr3 := Rd.room hr3
    refine VO.y rfl (.ixI i rfl rfl tsl54 rfl (by exact fin0_ApartBytes_ok)) ?_
    refine VO.y rfl (.ld1 1 rfl tk27 rfl hce3) ?_
    refine VO.callN 104 rfl fnOk15 rfl (fun W hW => CopyBytes_ok W (Rd.mono hr3 (hW.at (i := 1) rfl)) (by exact fin0_ApartBytes_ok)) (fun v4 m4 hv4 => ?_)
    obtain ⟨s4_0, rfl, f4_0⟩ := hv4
    obtain ⟨A4_0, c4_0, eq4_0, l4_0, k4_0⟩ := f4_0.slice
    subst eq4_0
    simp only [maxLen] at k4_0
    obtain ⟨x5, hx5⟩ : ∃ z_, (was)[i]? = some z_ := ⟨_, List.getElem?_eq_getElem (by exact fin0_ApartBytes_ok)⟩
    obtain ⟨gg5, oo5, ec5, ea5, hce5, hre5⟩ := (Ow.rd h_was (mle_refl _)).elem hx5
    cases ea5
    have hr5 := hre5
    obtain ⟨A5_, c5_, rfl, _⟩ := hre5
    have rr5 := Rd.room hr5
    refine VO.y rfl (.ixI i rfl rfl tsl54 rfl (by exact fin0_ApartBytes_ok)) ?_
    refine VO.setE (e := (.sl .byte)) (k := 1) (i := i) 101 104 rfl rfl (.inr ⟨tk27, rfl⟩) rfl rfl rfl rfl h_was rfl hx5 (x' := x3) (Ow.up (OwnL.ow (Ow.ownl f4_0 rfl mnil) rfl) ((Seps.one (mle_refl _)).1 _ (.head _))) (fun mu6 hu6 => ?_)
    have hl6 := slice_len hu6
    refine VO.k5 0 2 3 4 14 ?_
    refine outBN ?_
    refine outN ?_
    refine VC.reg ?_
    refine VO.mv ?_
    refine VO.y rfl (.add (c := ((i + 1 : Nat) : Int)) rfl rfl (by omega) ⟨by exact fin0_ApartBytes_ok, by exact fin0_ApartBytes_ok⟩) ?_
    refine VO.as ?_
    refine VO.keep [101, 0, 1] [(101, mu6), (0, mout (wm W) (m0)), (1, m0)] (by kernel_rfl) ?_
    refine VO.k5 0 2 3 4 14 ?_
    exact outN ⟨⟨i + 1, (was).set i x3, mu6⟩, ⟨by omega, by exact fill_next hw ‹d0[i]? = some _›, hu6⟩, by exact fin0_ApartBytes_ok, ⟨⟨rfl, rfl, rfl, rfl, rfl, trivial⟩, fun _ h => Inv.sub h [101, 0, 1]⟩⟩
  · -- F
    refine VC.exit ?_
    refine outE ?_
    refine outE ?_
    refine outBB ?_
    refine outN ?_
    refine VC.seq ?_
    refine VC.rs ?_
    refine VO.as ?_
    refine VO.k6 0 2 3 4 5 14 ?_
    refine VC.block ?_
    refine VC.loop (G := Nat × (List (List UInt8)) × Mem) (fun g => [(0, Value.slice A0 (d0.length) (c0)), (5, Value.int .i64 ((((g.1) : Nat) : Int))), (0, Value.slice A0 (d0.length) (c0)), (3, Value.slice A1 ((List.replicate d0.length ([] : List UInt8)).length) (c1)), (4, Value.int .i64 (((i : Nat) : Int))), (14, Value.bool (decide (((i : Nat) : Int) < ((d0.length : Nat) : Int))))]) (fun g => [(101, was_m), (0, mout (wm W) (m0)), (1, (g.2.2))]) (fun g => (was = d0) ∧ ((g.1) ≤ d0.length) ∧ ((g.2.1) = (d0.take (g.1)).map (List.map cplB) ++ d0.drop (g.1)) ∧ (Ow (.sl (.sl .byte)) (g.2.2) [.slice A0 (d0.length) (c0)] (g.2.1))) (fun g => d0.length - (g.1)) (0, d0, m0) (⟨by exact fill_all hw (by omega), by omega, by simp, h0⟩) ⟨⟨rfl, rfl, rfl, rfl, rfl, rfl, trivial⟩, fun _ h => h.sub [101, 0, 1]⟩ ?_
    rintro ⟨j, l, l_m⟩ ⟨hw2, hj, hl, h_l⟩
    replace hw2 : was = d0 := hw2
    replace hj : j ≤ d0.length := hj
    replace hl : l = (d0.take j).map (List.map cplB) ++ d0.drop j := hl
    replace h_l : Ow (.sl (.sl .byte)) l_m [.slice A0 (d0.length) (c0)] l := h_l
    show VC _ _ _ _ _ [(0, Value.slice A0 (d0.length) (c0)), (5, Value.int .i64 (((j : Nat) : Int))), (0, Value.slice A0 (d0.length) (c0)), (3, Value.slice A1 ((List.replicate d0.length ([] : List UInt8)).length) (c1)), (4, Value.int .i64 (((i : Nat) : Int))), (14, Value.bool (decide (((i : Nat) : Int) < ((d0.length : Nat) : Int))))] [(101, was_m), (0, mout (wm W) (m0)), (1, l_m)]
    have ll_l := slice_len h_l
    refine VC.seq ?_
    refine VC.rs ?_
    refine VO.mv ?_
    refine VO.mv ?_
    refine VO.y rfl (.lenS rfl tsl54) ?_
    refine VO.y rfl (.lss rfl rfl) ?_
    refine VO.keep [101, 0, 1] [(101, was_m), (0, mout (wm W) (m0)), (1, l_m)] (by kernel_rfl) ?_
    refine VO.k6 0 3 4 5 14 28 ?_
    refine VC.cond rfl (fun hc7 => ?_) (fun hc7 => ?_)
    · -- FT
      refine VC.skip ?_
      refine outN ?_
      refine VC.seq ?_
      refine VC.block ?_
      refine VC.seq ?_
      refine VC.seq ?_
      refine VC.regD _ 8 [(0, true), (1, true), (2, true), (3, true), (4, true), (5, true), (6, true), (7, true)] follows (by kernel_rfl) (fun _ h => h.sub [101, 0, 1]) ?_
      refine VD.y rfl rfl (.inl rfl) (.mv rfl) ?_
      refine VD.y rfl rfl (.inl rfl) (.mv rfl) ?_
      obtain ⟨x8, hx8⟩ : ∃ z_, (l)[j]? = some z_ := ⟨_, List.getElem?_eq_getElem (by exact fin0_ApartBytes_ok)⟩
      obtain ⟨gg8, oo8, ec8, ea8, hce8, hre8⟩ := (Ow.rd h_l (mle_refl _)).elem hx8
      cases ea8
      have hr8 := hre8
      obtain ⟨A8_, c8_, rfl, _⟩ := hre8
      have rr8 := Rd.room hr8
      refine VD.y rfl rfl (.inl rfl) (.ixI j rfl rfl tsl54 rfl (by exact fin0_ApartBytes_ok)) ?_
      refine VD.y rfl rfl (.inl rfl) (.ld1 1 rfl tk27 rfl hce8) ?_
      refine VD.y rfl rfl (.inl rfl) (.mv rfl) ?_
      refine VD.y rfl rfl (.inl rfl) (.mv rfl) ?_
      obtain ⟨x9, hx9⟩ : ∃ z_, (was)[j]? = some z_ := ⟨_, List.getElem?_eq_getElem (by exact fin0_ApartBytes_ok)⟩
      obtain ⟨gg9, oo9, ec9, ea9, hce9, hre9⟩ := (Ow.rd h_was (mle_refl _)).elem hx9
      cases ea9
      have hr9 := hre9
      obtain ⟨A9_, c9_, rfl, _⟩ := hre9
      have rr9 := Rd.room hr9
      refine VD.y rfl rfl (.inl rfl) (.ixI j rfl rfl tsl54 rfl (by exact fin0_ApartBytes_ok)) ?_
      refine VD.y rfl rfl (.inl rfl) (.ld1 101 rfl tk27 rfl hce9) ?_
      refine VD.nil rfl ?_ rfl
      refine VO.callN 110 rfl fnOk20 rfl (fun W hW => SameBytes_ok W (Rd.mono hr8 (hW.at (i := 1) rfl)) (Rd.mono hr9 (hW.at (i := 101) rfl))) (fun v10 m10 hv10 => ?_)
      subst hv10
      refine VO.y rfl (.notD rfl) ?_
      refine VO.k7 0 3 4 5 14 28 40 ?_
      refine outN ?_
      refine VC.cond rfl (fun hc11 => ?_) (fun hc11 => ?_)
      · -- FTT
        exact absurd (apart_same hl hw2 ‹l[j]? = some _› ‹was[j]? = some _›) hc11
      · -- FTF
        refine VC.skip ?_
        refine outN ?_
        refine VC.reg ?_
        refine VO.mv ?_
        refine VO.mv ?_
        refine VO.y rfl (.ixI j rfl rfl tsl54 rfl (by exact fin0_ApartBytes_ok)) ?_
        refine VO.y rfl (.ld1 1 rfl tk27 rfl hce8) ?_
        obtain ⟨mr13, me13, hH13, hE13, hB13⟩ := Ow.hole h_l hx8 hce8
        refine VO.parts 1 [1, 114] rfl hH13 ?_
        refine VO.call 114 rfl fnOk32 rfl rfl (fun W hW => OverBytes_ok W (hW.at (i := 114) rfl) hE13) (fun v13 m13 hv13 => ?_)
        obtain ⟨rfl, w13_0⟩ := hv13
        have wl13_0 := slice_len w13_0
        refine VO.gather (l := [mr13, m13]) 1 [1, 114] rfl (fun hg13 => ?_)
        have hL13 := Seps.back hg13 (fun hd_ => hB13 _ _ hd_ w13_0)
        have hl13 := slice_len hL13
        refine VO.k7 0 3 4 5 14 28 40 ?_
        refine outBN ?_
        refine outN ?_
        refine VC.reg ?_
        refine VO.mv ?_
        refine VO.y rfl (.add (c := ((j + 1 : Nat) : Int)) rfl rfl (by omega) ⟨by exact fin0_ApartBytes_ok, by exact fin0_ApartBytes_ok⟩) ?_
        refine VO.as ?_
        refine VO.keep [1, 101, 0] [(1, muns [mr13, m13]), (101, was_m), (0, mout (wm W) (m0))] (by kernel_rfl) ?_
        refine VO.k7 0 3 4 5 14 28 40 ?_
        exact outN ⟨⟨j + 1, (l).set j (x8.map cplB), muns [mr13, m13]⟩, ⟨by exact hw2, by omega, by exact (over_set hl ‹l[j]? = some _›).2, hL13⟩, by exact fin0_ApartBytes_ok, ⟨⟨rfl, rfl, rfl, rfl, rfl, rfl, trivial⟩, fun _ h => Inv.sub h [101, 0, 1]⟩⟩
    · -- FF
      refine VC.exit ?_
      refine outE ?_
      refine outE ?_
      refine outBB ?_
      refine outN ?_
      refine VC.seq ?_
      refine VC.rs ?_
      refine VO.as ?_
      refine VO.k7 0 3 4 5 6 14 28 ?_
      refine VC.block ?_
      refine VC.loop (G := Nat) (fun p => [(6, Value.int .i64 (((p : Nat) : Int))), (0, Value.slice A0 (d0.length) (c0)), (3, Value.slice A1 ((List.replicate d0.length ([] : List UInt8)).length) (c1)), (4, Value.int .i64 (((i : Nat) : Int))), (5, Value.int .i64 (((j : Nat) : Int))), (14, Value.bool (decide (((i : Nat) : Int) < ((d0.length : Nat) : Int)))), (28, Value.bool (decide (((j : Nat) : Int) < ((d0.length : Nat) : Int))))]) (fun p => [(101, was_m), (0, mout (wm W) (m0)), (1, l_m)]) (fun p => (was = d0) ∧ (p ≤ d0.length) ∧ (l = d0.map (List.map cplB))) (fun p => d0.length - p) 0 (⟨by exact hw2, by omega, by exact over_all hl (by omega)⟩) ⟨⟨rfl, rfl, rfl, rfl, rfl, rfl, rfl, trivial⟩, fun _ h => h.sub [101, 0, 1]⟩ ?_
      rintro p ⟨hw4, hp, hl4⟩
      refine VC.seq ?_
      refine VC.rs ?_
      refine VO.mv ?_
      refine VO.mv ?_
      refine VO.y rfl (.lenS rfl tsl54) ?_
      refine VO.y rfl (.lss rfl rfl) ?_
      refine VO.k8 0 3 4 5 6 14 28 49 ?_
      refine VC.cond rfl (fun hc15 => ?_) (fun hc15 => ?_)
      · -- FFT
        refine VC.skip ?_
        refine outN ?_
        refine VC.seq ?_
        refine VC.block ?_
        refine VC.rs ?_
        refine VO.as ?_
        refine VO.keep [101, 0, 1] [(101, was_m), (0, mout (wm W) (m0)), (1, l_m)] (by kernel_rfl) ?_
        refine VO.k9 0 3 4 5 6 7 14 28 49 ?_
        refine VC.block ?_
        refine VC.loop (G := Nat) (fun k => [(7, Value.int .i64 (((k : Nat) : Int))), (0, Value.slice A0 (d0.length) (c0)), (3, Value.slice A1 ((List.replicate d0.length ([] : List UInt8)).length) (c1)), (4, Value.int .i64 (((i : Nat) : Int))), (5, Value.int .i64 (((j : Nat) : Int))), (6, Value.int .i64 (((p : Nat) : Int))), (14, Value.bool (decide (((i : Nat) : Int) < ((d0.length : Nat) : Int)))), (28, Value.bool (decide (((j : Nat) : Int) < ((d0.length : Nat) : Int)))), (49, Value.bool (decide (((p : Nat) : Int) < ((d0.length : Nat) : Int))))]) (fun k => [(101, was_m), (0, mout (wm W) (m0)), (1, l_m)]) (fun k => (k ≤ 9223372036854775807)) (fun k => 9223372036854775807 - k) 0 (by omega) ⟨⟨rfl, rfl, rfl, rfl, rfl, rfl, rfl, rfl, rfl, trivial⟩, fun _ h => h.sub [101, 0, 1]⟩ ?_
        rintro k hk
        refine VC.seq ?_
        refine VC.rs ?_
        refine VO.mv ?_
        refine VO.mv ?_
        refine VO.mv ?_
        obtain ⟨x16, hx16⟩ : ∃ z_, (l)[p]? = some z_ := ⟨_, List.getElem?_eq_getElem (by exact fin0_ApartBytes_ok)⟩
        obtain ⟨gg16, oo16, ec16, ea16, hce16, hre16⟩ := (Ow.rd h_l (mle_refl _)).elem hx16
        cases ea16
        have hr16 := hre16
        obtain ⟨A16_, c16_, rfl, _⟩ := hre16
        have rr16 := Rd.room hr16
        refine VO.y rfl (.ixI p rfl rfl tsl54 rfl (by exact fin0_ApartBytes_ok)) ?_
        refine VO.y rfl (.ld1 1 rfl tk27 rfl hce16) ?_
        refine VO.y rfl (.lenS rfl tsl27) ?_
        refine VO.y rfl (.lss rfl rfl) ?_
        refine VO.k10 0 3 4 5 6 7 14 28 49 58 ?_
        refine VC.cond rfl (fun hc17 => ?_) (fun hc17 => ?_)
        · -- FFTT
          refine VC.skip ?_
          refine outN ?_
          refine VC.seq ?_
          refine VC.block ?_
          refine VC.seq ?_
          refine VC.regD _ 15 [(0, true), (1, true), (2, true), (3, true), (4, true), (5, true), (6, true), (7, true), (8, true), (9, true), (10, true), (11, true), (12, true), (13, true), (14, true)] follows (by kernel_rfl) (fun _ h => h.sub [101, 0, 1]) ?_
          refine VD.y rfl rfl (.inl rfl) (.mv rfl) ?_
          refine VD.y rfl rfl (.inl rfl) (.mv rfl) ?_
          refine VD.y rfl rfl (.inl rfl) (.ixI p rfl rfl tsl54 rfl (by exact fin0_ApartBytes_ok)) ?_
          refine VD.y rfl rfl (.inl rfl) (.ld1 1 rfl tk27 rfl hce16) ?_
          refine VD.y rfl rfl (.inl rfl) (.mv rfl) ?_
          obtain ⟨x19, hx19⟩ : ∃ z_, (x16)[k]? = some z_ := ⟨_, List.getElem?_eq_getElem (by exact fin0_ApartBytes_ok)⟩
          obtain ⟨gg19, oo19, ec19, ea19, hce19, hre19⟩ := hr16.elem hx19
          cases ea19
          obtain rfl := (show _ = _ from hre19)
          have xb19 := x19.toNat_lt
          refine VD.y rfl rfl (.inl rfl) (.ixI k rfl rfl tsl27 rfl (by exact fin0_ApartBytes_ok)) ?_
          refine VD.y rfl rfl (.inl rfl) (.ld1 1 rfl tk5 rfl hce19) ?_
          refine VD.y rfl rfl (.inl rfl) (.mv rfl) ?_
          refine VD.y rfl rfl (.inl rfl) (.mv rfl) ?_
          obtain ⟨x20, hx20⟩ : ∃ z_, (was)[p]? = some z_ := ⟨_, List.getElem?_eq_getElem (by exact fin0_ApartBytes_ok)⟩
          obtain ⟨gg20, oo20, ec20, ea20, hce20, hre20⟩ := (Ow.rd h_was (mle_refl _)).elem hx20
          cases ea20
          have hr20 := hre20
          obtain ⟨A20_, c20_, rfl, _⟩ := hre20
          have rr20 := Rd.room hr20
          refine VD.y rfl rfl (.inl rfl) (.ixI p rfl rfl tsl54 rfl (by exact fin0_ApartBytes_ok)) ?_
          refine VD.y rfl rfl (.inl rfl) (.ld1 101 rfl tk27 rfl hce20) ?_
          refine VD.y rfl rfl (.inl rfl) (.mv rfl) ?_
          obtain ⟨x21, hx21⟩ : ∃ z_, (x20)[k]? = some z_ := ⟨_, List.getElem?_eq_getElem (by exact fin0_ApartBytes_ok)⟩
          obtain ⟨gg21, oo21, ec21, ea21, hce21, hre21⟩ := hr20.elem hx21
          cases ea21
          obtain rfl := (show _ = _ from hre21)
          have xb21 := x21.toNat_lt
          refine VD.y rfl rfl (.inl rfl) (.ixI k rfl rfl tsl27 rfl (by exact fin0_ApartBytes_ok)) ?_
          refine VD.y rfl rfl (.inl rfl) (.ld1 101 rfl tk5 rfl hce21) ?_
          refine VD.y rfl rfl (.inl rfl) (.cplB rfl (by exact fin0_ApartBytes_ok)) ?_
          refine VD.nil rfl ?_ rfl
          refine VO.y rfl (.neq rfl rfl) ?_
          refine VO.k11 0 3 4 5 6 7 14 28 49 58 76 ?_
          refine outN ?_
          refine VC.cond rfl (fun hc22 => ?_) (fun hc22 => ?_)
          · -- FFTTT
            exact absurd (by have h_ := apart_eq (f := cplB) hl4 hw4 ‹l[p]? = some _› ‹was[p]? = some _› (by assumption) (by assumption); rw [h_, cplB_toNat]) hc22
          · -- FFTTF
            refine VC.skip ?_
            refine outBN ?_
            refine outN ?_
            refine VC.reg ?_
            refine VO.mv ?_
            refine VO.y rfl (.add (c := ((k + 1 : Nat) : Int)) rfl rfl (by omega) ⟨by exact fin0_ApartBytes_ok, by exact fin0_ApartBytes_ok⟩) ?_
            refine VO.as ?_
            refine VO.keep [101, 0, 1] [(101, was_m), (0, mout (wm W) (m0)), (1, l_m)] (by kernel_rfl) ?_
            refine VO.k11 0 3 4 5 6 7 14 28 49 58 76 ?_
            exact outN ⟨k + 1, by omega, by exact fin0_ApartBytes_ok, ⟨⟨rfl, rfl, rfl, rfl, rfl, rfl, rfl, rfl, rfl, trivial⟩, fun _ h => Inv.sub h [101, 0, 1]⟩⟩
        · -- FFTF
          refine VC.exit ?_
          refine outE ?_
          refine outE ?_
          refine outBB ?_
          refine outBN ?_
          refine outN ?_
          refine VC.reg ?_
          refine VO.mv ?_
          refine VO.y rfl (.add (c := ((p + 1 : Nat) : Int)) rfl rfl (by omega) ⟨by exact fin0_ApartBytes_ok, by exact fin0_ApartBytes_ok⟩) ?_
          refine VO.as ?_
          refine VO.k10 0 3 4 5 6 7 14 28 49 58 ?_
          exact outN ⟨p + 1, ⟨by exact hw4, by omega, by exact hl4⟩, by exact fin0_ApartBytes_ok, ⟨⟨rfl, rfl, rfl, rfl, rfl, rfl, rfl, trivial⟩, fun _ h => Inv.sub h [101, 0, 1]⟩⟩
      · -- FFF
        refine VC.exit ?_
        refine outE ?_
        refine outE ?_
        refine outBB ?_
        refine outN ?_
        refine VC.rs ?_
        refine VO.as ?_
        refine VO.keep [101, 0, 1] [(101, was_m), (0, mout (wm W) (m0)), (1, l_m)] (by kernel_rfl) ?_
        refine VO.k9 0 2 3 4 5 6 14 28 49 ?_
        refine VC.ret ?_
        refine ⟨_, _, res_run (rs := [.tmp 2]) rfl (.tmp rfl .nil), fun W_ hI => out_of (l := []) hI [] rfl rfl (mle_refl _) (fun hS_ => ?_)⟩
        dsimp only [packV]
        all_goals (first | rfl | (simp [*]; done))
end
section
set_option linter.unusedVariables false
set_option linter.unusedSimpArgs false
set_option maxRecDepth 4000
theorem fnOk27 : fnOk Try.prog 27 = true := by kernel_rfl
theorem fnOk30 : fnOk Try.prog 30 = true := by kernel_rfl
theorem fnOk31 : fnOk Try.prog 31 = true := by kernel_rfl
theorem fnOk33 : fnOk Try.prog 33 = true := by kernel_rfl
theorem fnOk34 : fnOk Try.prog 34 = true := by kernel_rfl
theorem fnOk42 : fnOk Try.prog 42 = true := by kernel_rfl
theorem fnOk43 : fnOk Try.prog 43 = true := by kernel_rfl
theorem fnOk44 : fnOk Try.prog 44 = true := by kernel_rfl
theorem fnOk45 : fnOk Try.prog 45 = true := by kernel_rfl
theorem fnOk46 : fnOk Try.prog 46 = true := by kernel_rfl
theorem fnOk47 : fnOk Try.prog 47 = true := by kernel_rfl
theorem fnOk48 : fnOk Try.prog 48 = true := by kernel_rfl
theorem fnOk49 : fnOk Try.prog 49 = true := by kernel_rfl
theorem fnOk50 : fnOk Try.prog 50 = true := by kernel_rfl
theorem fnOk51 : fnOk Try.prog 51 = true := by kernel_rfl
theorem fnOk52 : fnOk Try.prog 52 = true := by kernel_rfl
theorem fnOk53 : fnOk Try.prog 53 = true := by kernel_rfl
theorem tar46 : tar Try.prog 46 = some (2, 1) := by kernel_rfl
theorem tar49 : tar Try.prog 49 = some (2, 1) := by kernel_rfl
theorem tk46 : tk Try.prog 46 = some (some 2) := by kernel_rfl
theorem tk47 : tk Try.prog 47 = some none := by kernel_rfl
theorem tk49 : tk Try.prog 49 = some (some 2) := by kernel_rfl
theorem tz46 : tz Try.prog 46 = some [.pointer none, .pointer none] := by kernel_rfl
theorem tz49 : tz Try.prog 49 = some [.pointer none, .pointer none] := by kernel_rfl
theorem fin0_meant05_ok {P : Prop} (h : P := by (unfold actD; first | (rw [if_pos (by assumption)]) | (rw [if_neg (by assumption), if_pos (by assumption)]) | (rw [if_neg (by assumption), if_neg (by assumption), if_pos (by assumption)]) | (rw [if_neg (by assumption), if_neg (by assumption), if_neg (by assumption), if_pos (by assumption)]) | (rw [if_neg (by assumption), if_neg (by assumption), if_neg (by assumption), if_neg (by assumption), if_pos (by assumption)]) | (rw [if_neg (by assumption), if_neg (by assumption), if_neg (by assumption), if_neg (by assumption), if_neg (by assumption), if_pos (by assumption)]) | (rw [if_neg (by assumption), if_neg (by assumption), if_neg (by assumption), if_neg (by assumption), if_neg (by assumption), if_neg (by assumption)]))) : P := h
theorem meant05_ok (W : World) {m0 : Mem} (hm : mle (m0) (wm W)) {g0 : Nat} {d0 : Dref05Disk} (h0 : Ow (.ptr Tref05Disk) m0 [.pointer (some ⟨g0, 0, none⟩)] (g0, d0)) {v1 : List Value} {d1 : Dlaw05Act} (h1 : Rd Tlaw05Act (mout (wm W) (m0)) v1 d1) (e0 : okR d0) (e1 : wD (fromR d0) + 3 * d1.2.2.2.2.length ≤ 1000000000000) : CallR Try.prog 30 [.pointer (some ⟨g0, 0, none⟩), .agg v1.toArray] W (m0) (fun v m' => v = .int .i64 ((actD (fromR d0) d1 d1.2.2.2.2).2) ∧ Ow (.ptr Tref05Disk) m' [.pointer (some ⟨g0, 0, none⟩)] (g0, toR (actD (fromR d0) d1 d1.2.2.2.2).1 d0.2.2.2.2.2.1)) := by
  obtain ⟨p1_A4, p1_c4, rfl, p1_0, p1_1, p1_2, p1_3, p1_4⟩ := open_law05Act (x0 := d1.1) (x1 := d1.2.1) (x2 := d1.2.2.1) (x3 := d1.2.2.2.1) (x4 := d1.2.2.2.2) h1
  simp only [inK] at p1_0
  simp only [inK] at p1_1
  simp only [inK] at p1_2
  simp only [inK] at p1_3
  have p1_r4 := Rd.room p1_4
  refine CallR.ofB (n := 48) hm Try.func30 rfl rfl rfl ?_
  refine VC.rs ?_
  refine VO.box (cs := [Value.int .i64 (d1.1), Value.int .i64 (d1.2.1), Value.int .i64 (d1.2.2.1), Value.int .i64 (d1.2.2.2.1), Value.slice p1_A4 (d1.2.2.2.2.length) (p1_c4)]) 102 rfl rfl rfl (fun g1 => ?_)
  refine VO.as ?_
  refine VO.k4 0 1 3 4 ?_
  refine VC.seq ?_
  refine VC.rs ?_
  refine VO.y rfl (.fa rfl tst31 rfl) ?_
  refine VO.y rfl (.ld1 102 rfl tk3 rfl (cellsAt_one rfl rfl)) ?_
  refine VO.callN 103 rfl fnOk11 rfl (fun W hW => pick_ok W d1.1 bdk 7 bdk bd) (fun v3 m3 hv3 => ?_)
  subst hv3
  have hfa4 := pickI_bounds d1.1 7 (by omega)
  refine VO.k5 0 1 3 4 7 ?_
  refine VC.block ?_
  refine VC.rs ?_
  refine VO.y rfl (.eql rfl rfl) ?_
  refine VO.as ?_
  refine VO.keep [102, 0, 1] [(102, mone g1 (.cells [Value.int .i64 (d1.1), Value.int .i64 (d1.2.1), Value.int .i64 (d1.2.2.1), Value.int .i64 (d1.2.2.2.1), Value.slice p1_A4 (d1.2.2.2.2.length) (p1_c4)].toArray 31 (0, 0))), (0, mout (wm W) (m0)), (1, m0)] (by kernel_rfl) ?_
  refine VO.k6 0 1 3 4 7 8 ?_
  refine VC.cond rfl (fun hc5 => ?_) (fun hc5 => ?_)
  · -- T
    refine VC.rs ?_
    refine VO.mv ?_
    refine VO.y rfl (.fa rfl tst31 rfl) ?_
    refine VO.y rfl (.ld1 102 rfl tk3 rfl (cellsAt_one rfl rfl)) ?_
    refine VO.y rfl (.fa rfl tst31 rfl) ?_
    refine VO.y rfl (.ld1 102 rfl tk27 rfl (cellsAt_one rfl rfl)) ?_
    refine VO.call 1 rfl fnOk42 rfl rfl (fun W hW => rWrite_ok W (hW.at (i := 1) rfl) h0 d1.2.1 bdk (Rd.mono p1_4 (hW.out (i := 1) (j := 0) rfl rfl)) (by assumption) bd) (fun v6 m6 hv6 => ?_)
    obtain ⟨rfl, w6_0⟩ := hv6
    refine VO.as ?_
    refine VO.k6 0 1 3 4 7 8 ?_
    refine VC.ret ?_
    refine outBR ?_
    refine outR ?_
    refine ⟨_, _, res_run (rs := [.tmp 4]) rfl (.tmp rfl .nil), fun W_ hI => out_of (l := [m6]) hI [1] rfl rfl (mle_refl _) (fun hS_ => ?_)⟩
    dsimp only [packV]
    have hm0_ : (toR (actD (fromR d0) d1 d1.2.2.2.2).1 d0.2.2.2.2.2.1 : Dref05Disk) = toR (dWrite (fromR d0) d1.2.1 d1.2.2.2.2).1 d0.2.2.2.2.2.1 := by first | rfl | (exact fin0_meant05_ok)
    refine ⟨?_, ?_⟩
    rotate_left
    · rw [hm0_]; exact (Ow.up w6_0 (hS_.1 _ (.head _)))
    all_goals (first | rfl | (exact fin0_meant05_ok))
  · -- F
    refine VC.rs ?_
    refine VO.y rfl (.eql rfl rfl) ?_
    refine VO.as ?_
    refine VO.k7 0 1 3 4 7 8 16 ?_
    refine VC.cond rfl (fun hc7 => ?_) (fun hc7 => ?_)
    · -- FT
      refine VC.rs ?_
      refine VO.mv ?_
      refine VO.y rfl (.fa rfl tst31 rfl) ?_
      refine VO.y rfl (.ld1 102 rfl tk3 rfl (cellsAt_one rfl rfl)) ?_
      refine VO.y rfl (.fa rfl tst31 rfl) ?_
      refine VO.y rfl (.ld1 102 rfl tk3 rfl (cellsAt_one rfl rfl)) ?_
      refine VO.call 1 rfl fnOk43 rfl rfl (fun W hW => rCut_ok W (hW.at (i := 1) rfl) h0 d1.2.1 bdk d1.2.2.1 bdk (by assumption) bd) (fun v8 m8 hv8 => ?_)
      obtain ⟨rfl, w8_0⟩ := hv8
      have hfa9 := (show okR (toR ((dCut (fromR d0) d1.2.1 d1.2.2.1).1) d0.2.2.2.2.2.1) from okR_to (cut_ok (show okD (fromR d0) from (show okR d0 by assumption))) (nf_cut (nf_from d0)))
      have hfa10 := (show wD (fromR (toR ((dCut (fromR d0) d1.2.1 d1.2.2.1).1) d0.2.2.2.2.2.1)) ≤ _ by rw [from_to (cut_ok (show okD (fromR d0) from (show okR d0 by assumption))) (nf_cut (nf_from d0))]; exact cut_w (show okD (fromR d0) from (show okR d0 by assumption)))
      refine VO.as ?_
      refine VO.k7 0 1 3 4 7 8 16 ?_
      refine VC.ret ?_
      refine outBR ?_
      refine outR ?_
      refine ⟨_, _, res_run (rs := [.tmp 4]) rfl (.tmp rfl .nil), fun W_ hI => out_of (l := [m8]) hI [1] rfl rfl (mle_refl _) (fun hS_ => ?_)⟩
      dsimp only [packV]
      have hm0_ : (toR (actD (fromR d0) d1 d1.2.2.2.2).1 d0.2.2.2.2.2.1 : Dref05Disk) = toR (dCut (fromR d0) d1.2.1 d1.2.2.1).1 d0.2.2.2.2.2.1 := by first | rfl | (exact fin0_meant05_ok)
      refine ⟨?_, ?_⟩
      rotate_left
      · rw [hm0_]; exact (Ow.up w8_0 (hS_.1 _ (.head _)))
      all_goals (first | rfl | (exact fin0_meant05_ok))
    · -- FF
      refine VC.rs ?_
      refine VO.y rfl (.eql rfl rfl) ?_
      refine VO.as ?_
      refine VO.k8 0 1 3 4 7 8 16 24 ?_
      refine VC.cond rfl (fun hc11 => ?_) (fun hc11 => ?_)
      · -- FFT
        refine VC.rs ?_
        refine VO.mv ?_
        refine VO.call 1 rfl fnOk44 rfl rfl (fun W hW => rSync_ok W (hW.at (i := 1) rfl) h0 (by assumption) bd) (fun v12 m12 hv12 => ?_)
        obtain ⟨rfl, w12_0⟩ := hv12
        have hfa13 := (show okR (toR ((dSync (fromR d0)).1) d0.2.2.2.2.2.1) from okR_to (sync_ok (show okD (fromR d0) from (show okR d0 by assumption))) (nf_sync (nf_from d0)))
        have hfa14 := (show wD (fromR (toR ((dSync (fromR d0)).1) d0.2.2.2.2.2.1)) ≤ _ by rw [from_to (sync_ok (show okD (fromR d0) from (show okR d0 by assumption))) (nf_sync (nf_from d0))]; exact sync_w (show okD (fromR d0) from (show okR d0 by assumption)))
        refine VO.as ?_
        refine VO.keep [1, 102, 0] [(1, m12), (102, mone g1 (.cells [Value.int .i64 (d1.1), Value.int .i64 (d1.2.1), Value.int .i64 (d1.2.2.1), Value.int .i64 (d1.2.2.2.1), Value.slice p1_A4 (d1.2.2.2.2.length) (p1_c4)].toArray 31 (0, 0))), (0, mout (wm W) (m0))] (by kernel_rfl) ?_
        refine VO.k8 0 1 3 4 7 8 16 24 ?_
        refine VC.ret ?_
        refine outBR ?_
        refine outR ?_
        refine ⟨_, _, res_run (rs := [.tmp 4]) rfl (.tmp rfl .nil), fun W_ hI => out_of (l := [m12]) hI [1] rfl rfl (mle_refl _) (fun hS_ => ?_)⟩
        dsimp only [packV]
        have hm0_ : (toR (actD (fromR d0) d1 d1.2.2.2.2).1 d0.2.2.2.2.2.1 : Dref05Disk) = toR (dSync (fromR d0)).1 d0.2.2.2.2.2.1 := by first | rfl | (exact fin0_meant05_ok)
        refine ⟨?_, ?_⟩
        rotate_left
        · rw [hm0_]; exact (Ow.up w12_0 (hS_.1 _ (.head _)))
        all_goals (first | rfl | (exact fin0_meant05_ok))
      · -- FFF
        refine VC.rs ?_
        refine VO.y rfl (.eql rfl rfl) ?_
        refine VO.as ?_
        refine VO.keep [102, 0, 1] [(102, mone g1 (.cells [Value.int .i64 (d1.1), Value.int .i64 (d1.2.1), Value.int .i64 (d1.2.2.1), Value.int .i64 (d1.2.2.2.1), Value.slice p1_A4 (d1.2.2.2.2.length) (p1_c4)].toArray 31 (0, 0))), (0, mout (wm W) (m0)), (1, m0)] (by kernel_rfl) ?_
        refine VO.k9 0 1 3 4 7 8 16 24 28 ?_
        refine VC.cond rfl (fun hc15 => ?_) (fun hc15 => ?_)
        · -- FFFT
          refine VC.rs ?_
          refine VO.mv ?_
          refine VO.y rfl (.fa rfl tst31 rfl) ?_
          refine VO.y rfl (.ld1 102 rfl tk3 rfl (cellsAt_one rfl rfl)) ?_
          refine VO.call 1 rfl fnOk45 rfl rfl (fun W hW => rFuse_ok W (hW.at (i := 1) rfl) h0 d1.2.2.1 bdk (by assumption)) (fun v16 m16 hv16 => ?_)
          obtain ⟨rfl, w16_0⟩ := hv16
          have hfa17 := (show okR (toR ((dFuse (fromR d0) d1.2.2.1).1) d0.2.2.2.2.2.1) from okR_to (fuse_ok (show okD (fromR d0) from (show okR d0 by assumption))) (nf_fuse (nf_from d0)))
          have hfa18 := (show wD (fromR (toR ((dFuse (fromR d0) d1.2.2.1).1) d0.2.2.2.2.2.1)) ≤ _ by rw [from_to (fuse_ok (show okD (fromR d0) from (show okR d0 by assumption))) (nf_fuse (nf_from d0))]; exact Nat.le_of_eq (fuse_w _ _))
          refine VO.as ?_
          refine VO.k9 0 1 3 4 7 8 16 24 28 ?_
          refine VC.ret ?_
          refine outBR ?_
          refine outR ?_
          refine ⟨_, _, res_run (rs := [.tmp 4]) rfl (.tmp rfl .nil), fun W_ hI => out_of (l := [m16]) hI [1] rfl rfl (mle_refl _) (fun hS_ => ?_)⟩
          dsimp only [packV]
          have hm0_ : (toR (actD (fromR d0) d1 d1.2.2.2.2).1 d0.2.2.2.2.2.1 : Dref05Disk) = toR (dFuse (fromR d0) d1.2.2.1).1 d0.2.2.2.2.2.1 := by first | rfl | (exact fin0_meant05_ok)
          refine ⟨?_, ?_⟩
          rotate_left
          · rw [hm0_]; exact (Ow.up w16_0 (hS_.1 _ (.head _)))
          all_goals (first | rfl | (exact fin0_meant05_ok))
        · -- FFFF
          refine VC.rs ?_
          refine VO.y rfl (.eql rfl rfl) ?_
          refine VO.as ?_
          refine VO.k10 0 1 3 4 7 8 16 24 28 34 ?_
          refine VC.cond rfl (fun hc19 => ?_) (fun hc19 => ?_)
          · -- FFFFT
            refine VC.rs ?_
            refine VO.mv ?_
            refine VO.call 1 rfl fnOk46 rfl rfl (fun W hW => rPull_ok W (hW.at (i := 1) rfl) h0 (by assumption)) (fun v20 m20 hv20 => ?_)
            obtain ⟨rfl, w20_0⟩ := hv20
            have hfa21 := (show okR (toR ((dPull (fromR d0)).1) d0.2.2.2.2.2.1) from okR_to (pull_ok (show okD (fromR d0) from (show okR d0 by assumption))) (nf_pull (nf_from d0)))
            have hfa22 := (show wD (fromR (toR ((dPull (fromR d0)).1) d0.2.2.2.2.2.1)) ≤ _ by rw [from_to (pull_ok (show okD (fromR d0) from (show okR d0 by assumption))) (nf_pull (nf_from d0))]; exact Nat.le_of_eq (pull_w _))
            refine VO.as ?_
            refine VO.k10 0 1 3 4 7 8 16 24 28 34 ?_
            refine VC.ret ?_
            refine outBR ?_
            refine outR ?_
            refine ⟨_, _, res_run (rs := [.tmp 4]) rfl (.tmp rfl .nil), fun W_ hI => out_of (l := [m20]) hI [1] rfl rfl (mle_refl _) (fun hS_ => ?_)⟩
            dsimp only [packV]
            have hm0_ : (toR (actD (fromR d0) d1 d1.2.2.2.2).1 d0.2.2.2.2.2.1 : Dref05Disk) = toR (dPull (fromR d0)).1 d0.2.2.2.2.2.1 := by first | rfl | (exact fin0_meant05_ok)
            refine ⟨?_, ?_⟩
            rotate_left
            · rw [hm0_]; exact (Ow.up w20_0 (hS_.1 _ (.head _)))
            all_goals (first | rfl | (exact fin0_meant05_ok))
          · -- FFFFF
            refine VC.rs ?_
            refine VO.y rfl (.eql rfl rfl) ?_
            refine VO.as ?_
            refine VO.k11 0 1 3 4 7 8 16 24 28 34 38 ?_
            refine VC.cond rfl (fun hc23 => ?_) (fun hc23 => ?_)
            · -- FFFFFT
              refine VC.rs ?_
              refine VO.mv ?_
              refine VO.y rfl (.fa rfl tst31 rfl) ?_
              refine VO.y rfl (.ld1 102 rfl tk3 rfl (cellsAt_one rfl rfl)) ?_
              refine VO.y rfl (.fa rfl tst31 rfl) ?_
              refine VO.y rfl (.ld1 102 rfl tk3 rfl (cellsAt_one rfl rfl)) ?_
              refine VO.call 1 rfl fnOk47 rfl rfl (fun W hW => rStart_ok W (hW.at (i := 1) rfl) h0 d1.2.2.1 bdk d1.2.2.2.1 bdk (by assumption) bd) (fun v24 m24 hv24 => ?_)
              obtain ⟨rfl, w24_0⟩ := hv24
              have hfa25 := (show okR (toR ((dStart (fromR d0) d1.2.2.1 d1.2.2.2.1).1) d0.2.2.2.2.2.1) from okR_to (start_ok (show okD (fromR d0) from (show okR d0 by assumption))) (nf_start (nf_from d0)))
              have hfa26 := (show wD (fromR (toR ((dStart (fromR d0) d1.2.2.1 d1.2.2.2.1).1) d0.2.2.2.2.2.1)) ≤ _ by rw [from_to (start_ok (show okD (fromR d0) from (show okR d0 by assumption))) (nf_start (nf_from d0))]; exact start_w _ _ _)
              refine VO.as ?_
              refine VO.keep [1, 102, 0] [(1, m24), (102, mone g1 (.cells [Value.int .i64 (d1.1), Value.int .i64 (d1.2.1), Value.int .i64 (d1.2.2.1), Value.int .i64 (d1.2.2.2.1), Value.slice p1_A4 (d1.2.2.2.2.length) (p1_c4)].toArray 31 (0, 0))), (0, mout (wm W) (m0))] (by kernel_rfl) ?_
              refine VO.k11 0 1 3 4 7 8 16 24 28 34 38 ?_
              refine VC.ret ?_
              refine outBR ?_
              refine outR ?_
              refine ⟨_, _, res_run (rs := [.tmp 4]) rfl (.tmp rfl .nil), fun W_ hI => out_of (l := [m24]) hI [1] rfl rfl (mle_refl _) (fun hS_ => ?_)⟩
              dsimp only [packV]
              have hm0_ : (toR (actD (fromR d0) d1 d1.2.2.2.2).1 d0.2.2.2.2.2.1 : Dref05Disk) = toR (dStart (fromR d0) d1.2.2.1 d1.2.2.2.1).1 d0.2.2.2.2.2.1 := by first | rfl | (exact fin0_meant05_ok)
              refine ⟨?_, ?_⟩
              rotate_left
              · rw [hm0_]; exact (Ow.up w24_0 (hS_.1 _ (.head _)))
              all_goals (first | rfl | (exact fin0_meant05_ok))
            · -- FFFFFF
              refine VC.skip ?_
              refine outBN ?_
              refine outN ?_
              refine VC.rs ?_
              refine VO.mv ?_
              refine VO.call 1 rfl fnOk48 rfl rfl (fun W hW => rSafe_ok W (hW.at (i := 1) rfl) h0 (by assumption)) (fun v27 m27 hv27 => ?_)
              obtain ⟨rfl, w27_0⟩ := hv27
              have hfa28 := (show okR (toR ((dSafe (fromR d0)).1) d0.2.2.2.2.2.1) from okR_to (safe_ok (show okD (fromR d0) from (show okR d0 by assumption))) (nf_safe (nf_from d0)))
              have hfa29 := (show wD (fromR (toR ((dSafe (fromR d0)).1) d0.2.2.2.2.2.1)) ≤ _ by rw [from_to (safe_ok (show okD (fromR d0) from (show okR d0 by assumption))) (nf_safe (nf_from d0))]; exact Nat.le_of_eq (safe_w _))
              refine VO.as ?_
              refine VO.keep [1, 102, 0] [(1, m27), (102, mone g1 (.cells [Value.int .i64 (d1.1), Value.int .i64 (d1.2.1), Value.int .i64 (d1.2.2.1), Value.int .i64 (d1.2.2.2.1), Value.slice p1_A4 (d1.2.2.2.2.length) (p1_c4)].toArray 31 (0, 0))), (0, mout (wm W) (m0))] (by kernel_rfl) ?_
              refine VO.k11 0 1 3 4 7 8 16 24 28 34 38 ?_
              refine VC.ret ?_
              refine ⟨_, _, res_run (rs := [.tmp 4]) rfl (.tmp rfl .nil), fun W_ hI => out_of (l := [m27]) hI [1] rfl rfl (mle_refl _) (fun hS_ => ?_)⟩
              dsimp only [packV]
              have hm0_ : (toR (actD (fromR d0) d1 d1.2.2.2.2).1 d0.2.2.2.2.2.1 : Dref05Disk) = toR (dSafe (fromR d0)).1 d0.2.2.2.2.2.1 := by first | rfl | (exact fin0_meant05_ok)
              refine ⟨?_, ?_⟩
              rotate_left
              · rw [hm0_]; exact (Ow.up w27_0 (hS_.1 _ (.head _)))
              all_goals (first | rfl | (exact fin0_meant05_ok))
theorem same05_ok (W : World) {m : Mem} {m0 : Mem} {m1 : Mem} (hm : mle (m) (wm W)) (hS : Seps m [m0, m1]) {g0 : Nat} {d0 : DdiskDisk} (h0 : Ow (.ptr TdiskDisk) m0 [.pointer (some ⟨g0, 0, none⟩)] (g0, d0)) {g1 : Nat} {d1 : Dref05Disk} (h1 : Ow (.ptr Tref05Disk) m1 [.pointer (some ⟨g1, 0, none⟩)] (g1, d1)) (e0 : okD d0) (e1 : wD d0 ≤ 1000000000000) (e2 : fromR d1 = d0) : CallR Try.prog 33 [.pointer (some ⟨g0, 0, none⟩), .pointer (some ⟨g1, 0, none⟩)] W (m) (fun v m' => ∃ (p0 : Mem), ∃ (p1 : Mem), v = .bool true ∧ Seps m' [p0, p1] ∧ Ow (.ptr TdiskDisk) p0 [.pointer (some ⟨g0, 0, none⟩)] (g0, d0) ∧ Ow (.ptr Tref05Disk) p1 [.pointer (some ⟨g1, 0, none⟩)] (g1, d1)) := by
  have hor : okR d1 := (by unfold okR; rw [e2]; exact e0)
  have hwr : wD (fromR d1) ≤ 1000000000000 := (by rw [e2]; exact e1)
  refine CallR.ofB (n := 64) hm Try.func33 rfl rfl rfl ?_
  refine VC.inv _ (fun _ h => h.parts (i := 1) rfl hS [10, 11]) ?_
  refine VC.rs ?_
  refine VO.as ?_
  refine VO.k3 0 1 4 ?_
  refine VC.seq ?_
  refine VC.rs ?_
  refine VO.mv ?_
  refine VO.call 10 rfl fnOk23 rfl rfl (fun W hW => dOn_ok W (hW.at (i := 10) rfl) h0) (fun v1 m1 hv1 => ?_)
  obtain ⟨rfl, w1_0⟩ := hv1
  refine VO.mv ?_
  refine VO.call 11 rfl fnOk49 rfl rfl (fun W hW => rOn_ok W (hW.at (i := 11) rfl) h1) (fun v2 m2 hv2 => ?_)
  obtain ⟨rfl, w2_0⟩ := hv2
  refine VO.y rfl (.bneq rfl rfl Try.underlying4) ?_
  refine VO.mv ?_
  refine VO.dec (t := 15) rfl (fun hc3 => ?_) (fun hc3 => ?_)
  · -- T
    exact absurd (by rw [e2]) hc3
  · -- F
    refine VO.gy rfl ⟨_, rfl, rfl⟩ (.mv rfl) ?_
    refine VO.gcall 10 rfl ⟨_, rfl, rfl⟩ fnOk13 rfl rfl (fun W hW => dPending_ok W (hW.at (i := 10) rfl) w1_0) (fun v4 m4 hv4 => ?_)
    obtain ⟨rfl, w4_0⟩ := hv4
    refine VO.gy rfl ⟨_, rfl, rfl⟩ (.mv rfl) ?_
    refine VO.gcall 11 rfl ⟨_, rfl, rfl⟩ fnOk50 rfl rfl (fun W hW => rPending_ok W (hW.at (i := 11) rfl) w2_0) (fun v5 m5 hv5 => ?_)
    obtain ⟨rfl, w5_0⟩ := hv5
    refine VO.gy rfl ⟨_, rfl, rfl⟩ (.neq rfl rfl) ?_
    refine VO.y rfl (.pF rfl rfl) ?_
    refine VO.mv ?_
    refine VO.dec (t := 22) rfl (fun hc6 => ?_) (fun hc6 => ?_)
    · -- FT
      exact absurd (by rw [e2]) hc6
    · -- FF
      refine VO.gy rfl ⟨_, rfl, rfl⟩ (.mv rfl) ?_
      refine VO.gcall 10 rfl ⟨_, rfl, rfl⟩ fnOk24 rfl rfl (fun W hW => dSteps_ok W (hW.at (i := 10) rfl) w4_0) (fun v7 m7 hv7 => ?_)
      obtain ⟨rfl, w7_0⟩ := hv7
      refine VO.gy rfl ⟨_, rfl, rfl⟩ (.mv rfl) ?_
      refine VO.gcall 11 rfl ⟨_, rfl, rfl⟩ fnOk51 rfl rfl (fun W hW => rSteps_ok W (hW.at (i := 11) rfl) w5_0) (fun v8 m8 hv8 => ?_)
      obtain ⟨rfl, w8_0⟩ := hv8
      refine VO.gy rfl ⟨_, rfl, rfl⟩ (.neq rfl rfl) ?_
      refine VO.y rfl (.pF rfl rfl) ?_
      refine VO.k4 0 1 4 28 ?_
      refine VC.cond rfl (fun hc9 => ?_) (fun hc9 => ?_)
      · -- FFT
        exact absurd (by rw [e2]) hc9
      · -- FFF
        refine VC.skip ?_
        refine outN ?_
        refine VC.seq ?_
        refine VC.rs ?_
        refine VO.as ?_
        refine VO.keep [11, 10, 0] [(11, m8), (10, m7), (0, mout (wm W) (m))] (by kernel_rfl) ?_
        refine VO.k5 0 1 4 5 28 ?_
        refine VC.block ?_
        refine VC.loop (G := Int × DdiskDisk × Mem × Dref05Disk × Mem) (fun g => [(5, Value.int .i64 ((g.1))), (0, Value.pointer (some ⟨g0, 0, none⟩)), (1, Value.pointer (some ⟨g1, 0, none⟩)), (28, Value.bool (decide (¬ (dSteps d0) = (dSteps (fromR d1)))))]) (fun g => [(11, (g.2.2.2.2)), (10, (g.2.2.1)), (0, mout (wm W) (m))]) (fun g => (-1 ≤ (g.1) ∧ (g.1) ≤ 5) ∧ ((g.2.1) = d0) ∧ ((g.2.2.2.1) = d1) ∧ (Ow (.ptr TdiskDisk) (g.2.2.1) [.pointer (some ⟨g0, 0, none⟩)] (g0, (g.2.1))) ∧ (Ow (.ptr Tref05Disk) (g.2.2.2.2) [.pointer (some ⟨g1, 0, none⟩)] (g1, (g.2.2.2.1)))) (fun g => (5 - (g.1)).toNat) ((-1), d0, m7, d1, m8) (⟨by (dsimp only; omega), by rfl, by rfl, w7_0, w8_0⟩) ⟨⟨rfl, rfl, rfl, rfl, trivial⟩, fun _ h => h.sub [11, 10, 0]⟩ ?_
        rintro ⟨f, x, x_m, y, y_m⟩ ⟨hf, hx, hy, h_x, h_y⟩
        replace hf : -1 ≤ f ∧ f ≤ 5 := hf
        replace hx : x = d0 := hx
        replace hy : y = d1 := hy
        replace h_x : Ow (.ptr TdiskDisk) x_m [.pointer (some ⟨g0, 0, none⟩)] (g0, x) := h_x
        replace h_y : Ow (.ptr Tref05Disk) y_m [.pointer (some ⟨g1, 0, none⟩)] (g1, y) := h_y
        show VC _ _ _ _ _ [(5, Value.int .i64 (f)), (0, Value.pointer (some ⟨g0, 0, none⟩)), (1, Value.pointer (some ⟨g1, 0, none⟩)), (28, Value.bool (decide (¬ (dSteps d0) = (dSteps (fromR d1)))))] [(11, y_m), (10, x_m), (0, mout (wm W) (m))]
        have hox : okD x := by rw [hx]; exact e0
        have hwx : wD x ≤ 1000000000000 := by rw [hx]; exact e1
        have hoy : okR y := by rw [hy]; exact hor
        have hwy : wD (fromR y) ≤ 1000000000000 := by rw [hy]; exact hwr
        have hxy : fromR y = x := by rw [hx, hy]; exact e2
        refine VC.seq ?_
        refine VC.rs ?_
        refine VO.mv ?_
        refine VO.y rfl (.leq rfl rfl) ?_
        refine VO.k5 0 1 5 28 30 ?_
        refine VC.cond rfl (fun hc10 => ?_) (fun hc10 => ?_)
        · -- FFFT
          refine VC.skip ?_
          refine outN ?_
          refine VC.seq ?_
          refine VC.block ?_
          refine VC.rs ?_
          refine VO.mv ?_
          refine VO.mv ?_
          refine VO.call 10 rfl fnOk18 rfl rfl (fun W hW => dRead_ok W (hW.at (i := 10) rfl) h_x f bdk (by assumption) bd) (fun v11 m11 hv11 => ?_)
          obtain ⟨s11_0, p11_0, p11_1, rfl, hS11, f11_0, w11_0⟩ := hv11
          refine VO.inv _ (fun _ h => h.parts (i := 10) rfl hS11 [112, 113]) ?_
          have hfa14 := (read_size x f)
          obtain ⟨A11_0, c11_0, eq11_0, l11_0, k11_0⟩ := f11_0.slice
          subst eq11_0
          simp only [maxLen] at k11_0
          refine VO.mv ?_
          refine VO.y rfl (.ext rfl rfl) ?_
          refine VO.y rfl (.ext rfl rfl) ?_
          refine VO.as ?_
          refine VO.as ?_
          refine VO.k7 0 1 5 6 7 28 30 ?_
          refine VC.rs ?_
          refine VO.mv ?_
          refine VO.mv ?_
          refine VO.call 11 rfl fnOk52 rfl rfl (fun W hW => rRead_ok W (hW.at (i := 11) rfl) h_y f bdk (by assumption) bd) (fun v15 m15 hv15 => ?_)
          obtain ⟨s15_0, p15_0, p15_1, rfl, hS15, f15_0, w15_0⟩ := hv15
          refine VO.inv _ (fun _ h => h.parts (i := 11) rfl hS15 [116, 117]) ?_
          have hfa18 := (read_size (fromR y) f)
          obtain ⟨A15_0, c15_0, eq15_0, l15_0, k15_0⟩ := f15_0.slice
          subst eq15_0
          simp only [maxLen] at k15_0
          refine VO.mv ?_
          refine VO.y rfl (.ext rfl rfl) ?_
          refine VO.y rfl (.ext rfl rfl) ?_
          refine VO.as ?_
          refine VO.as ?_
          refine VO.keep [116, 117, 112, 113, 0] [(116, p15_0), (117, p15_1), (112, p11_0), (113, p11_1), (0, mout (wm W) (m))] (by kernel_rfl) ?_
          refine VO.k9 0 1 5 6 7 8 9 28 30 ?_
          refine VC.rs ?_
          refine VO.mv ?_
          refine VO.mv ?_
          refine VO.y rfl (.neq rfl rfl) ?_
          refine VO.mv ?_
          refine VO.dec (t := 48) rfl (fun hc19 => ?_) (fun hc19 => ?_)
          · -- FFFTT
            exact absurd (by rw [hxy]) hc19
          · -- FFFTF
            refine VO.gy rfl ⟨_, rfl, rfl⟩ (.mv rfl) ?_
            refine VO.gy rfl ⟨_, rfl, rfl⟩ (.mv rfl) ?_
            refine VO.gcallN 120 rfl ⟨_, rfl, rfl⟩ fnOk20 rfl (fun W hW => SameBytes_ok W (OwnL.rd (Ow.ownl f11_0 rfl mnil) (hW.at (i := 112) rfl) (mle_nil _)) (OwnL.rd (Ow.ownl f15_0 rfl mnil) (hW.at (i := 116) rfl) (mle_nil _))) (fun v20 m20 hv20 => ?_)
            subst hv20
            refine VO.gy rfl ⟨_, rfl, rfl⟩ (.notD rfl) ?_
            refine VO.y rfl (.pF rfl rfl) ?_
            refine VO.mv ?_
            refine VO.dec (t := 54) rfl (fun hc21 => ?_) (fun hc21 => ?_)
            · -- FFFTFT
              exact absurd (by rw [hxy]) hc21
            · -- FFFTFF
              refine VO.gy rfl ⟨_, rfl, rfl⟩ (.mv rfl) ?_
              refine VO.gy rfl ⟨_, rfl, rfl⟩ (.mv rfl) ?_
              refine VO.gcall 113 rfl ⟨_, rfl, rfl⟩ fnOk21 rfl rfl (fun W hW => dDurable_ok W (hW.at (i := 113) rfl) w11_0 f bdk bd) (fun v22 m22 hv22 => ?_)
              obtain ⟨s22_0, p22_0, p22_1, rfl, hS22, f22_0, w22_0⟩ := hv22
              refine VO.inv _ (fun _ h => h.parts (i := 113) rfl hS22 [123, 124]) ?_
              have hfa25 := (durable_size x f)
              obtain ⟨A22_0, c22_0, eq22_0, l22_0, k22_0⟩ := f22_0.slice
              subst eq22_0
              simp only [maxLen] at k22_0
              refine VO.gy rfl ⟨_, rfl, rfl⟩ (.mv rfl) ?_
              refine VO.gy rfl ⟨_, rfl, rfl⟩ (.mv rfl) ?_
              refine VO.gcall 117 rfl ⟨_, rfl, rfl⟩ fnOk53 rfl rfl (fun W hW => rDurable_ok W (hW.at (i := 117) rfl) w15_0 f bdk bd) (fun v26 m26 hv26 => ?_)
              obtain ⟨s26_0, p26_0, p26_1, rfl, hS26, f26_0, w26_0⟩ := hv26
              refine VO.inv _ (fun _ h => h.parts (i := 117) rfl hS26 [127, 128]) ?_
              have hfa29 := (durable_size (fromR y) f)
              obtain ⟨A26_0, c26_0, eq26_0, l26_0, k26_0⟩ := f26_0.slice
              subst eq26_0
              simp only [maxLen] at k26_0
              refine VO.gcallN 130 rfl ⟨_, rfl, rfl⟩ fnOk20 rfl (fun W hW => SameBytes_ok W (OwnL.rd (Ow.ownl f22_0 rfl mnil) (hW.at (i := 123) rfl) (mle_nil _)) (OwnL.rd (Ow.ownl f26_0 rfl mnil) (hW.at (i := 127) rfl) (mle_nil _))) (fun v30 m30 hv30 => ?_)
              subst hv30
              refine VO.gy rfl ⟨_, rfl, rfl⟩ (.notD rfl) ?_
              refine VO.y rfl (.pF rfl rfl) ?_
              refine VO.k10 0 1 5 6 7 8 9 28 30 63 ?_
              refine VC.cond rfl (fun hc31 => ?_) (fun hc31 => ?_)
              · -- FFFTFFT
                exact absurd (by rw [hxy]) hc31
              · -- FFFTFFF
                refine VC.skip ?_
                refine outBN ?_
                refine outN ?_
                refine VC.reg ?_
                refine VO.mv ?_
                refine VO.y rfl (.add rfl rfl rfl ⟨bd, bd⟩) ?_
                refine VO.as ?_
                refine VO.k10 0 1 5 6 7 8 9 28 30 63 ?_
                exact outN ⟨⟨f + 1, x, p22_1, y, p26_1⟩, ⟨by (dsimp only; omega), by exact hx, by exact hy, w22_0, w26_0⟩, by (dsimp only; omega), ⟨⟨rfl, rfl, rfl, rfl, trivial⟩, fun _ h => Inv.sub (Inv.num (Inv.num h 124 10 rfl) 128 11 rfl) [11, 10, 0]⟩⟩
        · -- FFFF
          refine VC.exit ?_
          refine outE ?_
          refine outE ?_
          refine outBB ?_
          refine outN ?_
          refine VC.rs ?_
          refine VO.as ?_
          refine VO.k6 0 1 4 5 28 30 ?_
          refine VC.ret ?_
          refine ⟨_, _, res_run (rs := [.tmp 4]) rfl (.tmp rfl .nil), fun W_ hI => out_of (l := [x_m, y_m]) hI [10, 11] rfl rfl (mle_refl _) (fun hS_ => ?_)⟩
          dsimp only [packV]
          have hm0_ : (d0 : DdiskDisk) = x := by first | rfl | (first | exact hx.symm | exact hy.symm)
          have hm1_ : (d1 : Dref05Disk) = y := by first | rfl | (first | exact hx.symm | exact hy.symm)
          refine ⟨muns [x_m], muns [y_m], ?_, ?_, ?_, ?_⟩
          rotate_left
          · exact Seps.grp (ls := [[x_m], [y_m]]) hS_
          · rw [hm0_]; exact (Ow.up h_x ((Seps.self hS_ (List.Sublist.cons_cons _ (List.Sublist.cons _ List.Sublist.slnil))).1 _ (.head _)))
          · rw [hm1_]; exact (Ow.up h_y ((Seps.self hS_ (List.Sublist.cons _ (List.Sublist.cons_cons _ List.Sublist.slnil))).1 _ (.head _)))
          all_goals (first | rfl | (simp [*]; done))
theorem fin0_diskScript_ok {P : Prop} (h : P := by first | omega | (simp only [List.length_append, List.length_nil, List.length_cons, List.length_take, List.length_drop] at *; omega) | (have h_ := hsm.1 _ (List.mem_of_getElem? ‹d0[k]? = some _›); omega)) : P := h
set_option maxHeartbeats 8000000 in
theorem diskScript_ok (W : World) {v0 : Value} {d0 : List Dlaw05Act} (h0 : Rd (.sl Tlaw05Act) (wm W) [v0] d0) : CallR Try.prog 6 [v0] W (mnil) (fun v m' => v = .bool true) := by
  obtain ⟨A0, c0, rfl, l0, k0⟩ := h0.slice
  simp only [maxLen] at k0
  refine CallR.ofA (n := 117) Try.func6 rfl rfl rfl ?_
  refine VC.rs ?_
  refine VO.as ?_
  refine VO.k2 0 2 ?_
  refine VC.seq ?_
  refine VC.rs ?_
  refine VO.callN 101 rfl fnOk8 rfl (fun W hW => lives05_ok W ) (fun v1 m1 hv1 => ?_)
  subst hv1
  refine VO.y rfl (.not rfl) ?_
  refine VO.k3 0 2 13 ?_
  refine VC.condF rfl ?_
  refine VC.skip ?_
  refine outN ?_
  refine VC.seq ?_
  refine VC.rs ?_
  refine VO.mv ?_
  refine VO.callN 102 rfl fnOk9 rfl (fun W hW => small05_ok W (Rd.mono h0 (hW.at (i := 0) rfl))) (fun v2 m2 hv2 => ?_)
  subst hv2
  refine VO.y rfl (.notD rfl) ?_
  refine VO.keep [0] [(0, wm W)] (by kernel_rfl) ?_
  refine VO.k4 0 2 13 16 ?_
  refine VC.cond rfl (fun hc3 => ?_) (fun hc3 => ?_)
  · -- T
    refine VC.rs ?_
    refine VO.as ?_
    refine VO.k4 0 2 13 16 ?_
    refine VC.ret ?_
    refine outR ?_
    refine ⟨_, _, res_run (rs := [.tmp 2]) rfl (.tmp rfl .nil), fun W_ hI => out_of (l := []) hI [] rfl rfl (mle_refl _) (fun hS_ => ?_)⟩
    dsimp only [packV]
    all_goals (first | rfl | (simp [*]; done))
  · -- F
    refine VC.skip ?_
    refine outN ?_
    refine VC.rs ?_
    refine VO.callN 104 rfl fnOk10 rfl (fun W hW => dNew_ok W ) (fun v4 m4 hv4 => ?_)
    obtain ⟨s4_0, rfl, f4_0⟩ := hv4
    have hfa5 := okD_new
    have hfa6 := (show wD newD = 0 from rfl)
    refine VO.callN 107 rfl fnOk10 rfl (fun W hW => dNew_ok W ) (fun v7 m7 hv7 => ?_)
    obtain ⟨s7_0, rfl, f7_0⟩ := hv7
    have hfa8 := okD_new
    have hfa9 := (show wD newD = 0 from rfl)
    refine VO.y rfl (.bar (cs := [Value.pointer (some ⟨s4_0, 0, none⟩), Value.pointer (some ⟨s7_0, 0, none⟩)]) rfl tar46 tz46 rfl) ?_
    refine VO.callN 110 rfl fnOk27 rfl (fun W hW => rNew_ok W ) (fun v10 m10 hv10 => ?_)
    obtain ⟨s10_0, rfl, f10_0⟩ := hv10
    have hfa11 := (show okR newR from okD_new)
    have hfa12 := (show wD (fromR newR) = 0 from rfl)
    refine VO.callN 113 rfl fnOk27 rfl (fun W hW => rNew_ok W ) (fun v13 m13 hv13 => ?_)
    obtain ⟨s13_0, rfl, f13_0⟩ := hv13
    have hfa14 := (show okR newR from okD_new)
    have hfa15 := (show wD (fromR newR) = 0 from rfl)
    refine VO.y rfl (.bar (cs := [Value.pointer (some ⟨s10_0, 0, none⟩), Value.pointer (some ⟨s13_0, 0, none⟩)]) rfl tar49 tz49 rfl) ?_
    refine VO.alloc 117 rfl tz46 (fun g16 => ?_)
    refine VO.alloc 119 rfl tz49 (fun g18 => ?_)
    refine VO.store (k := 2) (c' := [Value.pointer (some ⟨s4_0, 0, none⟩), Value.pointer (some ⟨s7_0, 0, none⟩)]) 117 rfl rfl (.inl tk46) rfl rfl rfl rfl rfl ?_
    refine VO.store (k := 2) (c' := [Value.pointer (some ⟨s10_0, 0, none⟩), Value.pointer (some ⟨s13_0, 0, none⟩)]) 119 rfl rfl (.inl tk49) rfl rfl rfl rfl rfl ?_
    refine VO.k6 0 2 3 4 13 16 ?_
    refine VC.seq ?_
    refine VC.rs ?_
    refine VO.as ?_
    refine VO.k7 0 2 3 4 5 13 16 ?_
    refine VC.block ?_
    refine VC.loop (G := Nat × DdiskDisk × Mem × DdiskDisk × Mem × Dref05Disk × Mem × Dref05Disk × Mem) (fun g => [(5, Value.int .i64 ((((g.1) : Nat) : Int))), (0, Value.slice A0 (d0.length) (c0)), (3, Value.pointer (some ⟨g16, 0, none⟩)), (4, Value.pointer (some ⟨g18, 0, none⟩)), (13, Value.bool false), (16, Value.bool (decide (¬ (smallA d0))))]) (fun g => [(119, mone g18 (.cells [Value.pointer (some ⟨s10_0, 0, none⟩), Value.pointer (some ⟨s13_0, 0, none⟩)].toArray 49 (0, 0))), (117, mone g16 (.cells [Value.pointer (some ⟨s4_0, 0, none⟩), Value.pointer (some ⟨s7_0, 0, none⟩)].toArray 46 (0, 0))), (113, (g.2.2.2.2.2.2.2.2)), (110, (g.2.2.2.2.2.2.1)), (107, (g.2.2.2.2.1)), (104, (g.2.2.1)), (0, wm W)]) (fun g => ((g.1) ≤ d0.length) ∧ (okD (g.2.1) ∧ fromR (g.2.2.2.2.2.1) = (g.2.1)) ∧ (okD (g.2.2.2.1) ∧ fromR (g.2.2.2.2.2.2.2.1) = (g.2.2.2.1)) ∧ (wD (g.2.1) ≤ 1300 * (g.1)) ∧ (wD (g.2.2.2.1) ≤ 1300 * (g.1)) ∧ (Ow (.ptr TdiskDisk) (g.2.2.1) [.pointer (some ⟨s4_0, 0, none⟩)] (s4_0, (g.2.1))) ∧ (Ow (.ptr TdiskDisk) (g.2.2.2.2.1) [.pointer (some ⟨s7_0, 0, none⟩)] (s7_0, (g.2.2.2.1))) ∧ (Ow (.ptr Tref05Disk) (g.2.2.2.2.2.2.1) [.pointer (some ⟨s10_0, 0, none⟩)] (s10_0, (g.2.2.2.2.2.1))) ∧ (Ow (.ptr Tref05Disk) (g.2.2.2.2.2.2.2.2) [.pointer (some ⟨s13_0, 0, none⟩)] (s13_0, (g.2.2.2.2.2.2.2.1)))) (fun g => d0.length - (g.1)) (0, newD, m4, newD, m7, newR, m10, newR, m13) (⟨by omega, by exact ⟨okD_new, from_newR⟩, by exact ⟨okD_new, from_newR⟩, by (dsimp only; omega), by (dsimp only; omega), f4_0, f7_0, f10_0, f13_0⟩) ⟨⟨rfl, rfl, rfl, rfl, rfl, rfl, trivial⟩, fun _ h => h.sub [119, 117, 113, 110, 107, 104, 0]⟩ ?_
    rintro ⟨k, da, da_m, db, db_m, ra, ra_m, rb, rb_m⟩ ⟨hk, ha, hb, hwa, hwb, h_da, h_db, h_ra, h_rb⟩
    replace hk : k ≤ d0.length := hk
    replace ha : okD da ∧ fromR ra = da := ha
    replace hb : okD db ∧ fromR rb = db := hb
    replace hwa : wD da ≤ 1300 * k := hwa
    replace hwb : wD db ≤ 1300 * k := hwb
    replace h_da : Ow (.ptr TdiskDisk) da_m [.pointer (some ⟨s4_0, 0, none⟩)] (s4_0, da) := h_da
    replace h_db : Ow (.ptr TdiskDisk) db_m [.pointer (some ⟨s7_0, 0, none⟩)] (s7_0, db) := h_db
    replace h_ra : Ow (.ptr Tref05Disk) ra_m [.pointer (some ⟨s10_0, 0, none⟩)] (s10_0, ra) := h_ra
    replace h_rb : Ow (.ptr Tref05Disk) rb_m [.pointer (some ⟨s13_0, 0, none⟩)] (s13_0, rb) := h_rb
    show VC _ _ _ _ _ [(5, Value.int .i64 (((k : Nat) : Int))), (0, Value.slice A0 (d0.length) (c0)), (3, Value.pointer (some ⟨g16, 0, none⟩)), (4, Value.pointer (some ⟨g18, 0, none⟩)), (13, Value.bool false), (16, Value.bool (decide (¬ (smallA d0))))] [(119, mone g18 (.cells [Value.pointer (some ⟨s10_0, 0, none⟩), Value.pointer (some ⟨s13_0, 0, none⟩)].toArray 49 (0, 0))), (117, mone g16 (.cells [Value.pointer (some ⟨s4_0, 0, none⟩), Value.pointer (some ⟨s7_0, 0, none⟩)].toArray 46 (0, 0))), (113, rb_m), (110, ra_m), (107, db_m), (104, da_m), (0, wm W)]
    have hsm := Decidable.not_not.1 ‹¬ ¬ smallA d0›
    have hsm2 := hsm.2
    have hoa := ha.1
    have hob := hb.1
    have hra : okR ra := by unfold okR; rw [ha.2]; exact ha.1
    have hrb : okR rb := by unfold okR; rw [hb.2]; exact hb.1
    have hva : wD (fromR ra) = wD da := by rw [ha.2]
    have hvb : wD (fromR rb) = wD db := by rw [hb.2]
    refine VC.seq ?_
    refine VC.rs ?_
    refine VO.mv ?_
    refine VO.mv ?_
    refine VO.y rfl (.lenS rfl tsl22) ?_
    refine VO.y rfl (.lss rfl rfl) ?_
    refine VO.keep [119, 117, 113, 110, 107, 104, 0] [(119, mone g18 (.cells [Value.pointer (some ⟨s10_0, 0, none⟩), Value.pointer (some ⟨s13_0, 0, none⟩)].toArray 49 (0, 0))), (117, mone g16 (.cells [Value.pointer (some ⟨s4_0, 0, none⟩), Value.pointer (some ⟨s7_0, 0, none⟩)].toArray 46 (0, 0))), (113, rb_m), (110, ra_m), (107, db_m), (104, da_m), (0, wm W)] (by kernel_rfl) ?_
    refine VO.k7 0 3 4 5 13 16 26 ?_
    refine VC.cond rfl (fun hc20 => ?_) (fun hc20 => ?_)
    · -- FT
      refine VC.skip ?_
      refine outN ?_
      refine VC.seq ?_
      refine VC.block ?_
      refine VC.rs ?_
      refine VO.as ?_
      refine VO.k8 0 3 4 5 6 13 16 26 ?_
      refine VC.seq ?_
      refine VC.rs ?_
      refine VO.mv ?_
      have hm21 := tmod_bounds (((k : Nat) : Int)) (3) (by exact fin0_diskScript_ok)
      refine VO.y rfl (.quo (.inr rfl) rfl rfl (rem_int _ _ _ (by exact fin0_diskScript_ok))) ?_
      refine VO.y rfl (.eql rfl rfl) ?_
      refine VO.k9 0 3 4 5 6 13 16 26 31 ?_
      refine VC.cond rfl (fun hc22 => ?_) (fun hc22 => ?_)
      · -- FTT
        refine VC.reg ?_
        refine VO.as ?_
        refine VO.keep [119, 117, 113, 110, 107, 104, 0] [(119, mone g18 (.cells [Value.pointer (some ⟨s10_0, 0, none⟩), Value.pointer (some ⟨s13_0, 0, none⟩)].toArray 49 (0, 0))), (117, mone g16 (.cells [Value.pointer (some ⟨s4_0, 0, none⟩), Value.pointer (some ⟨s7_0, 0, none⟩)].toArray 46 (0, 0))), (113, rb_m), (110, ra_m), (107, db_m), (104, da_m), (0, wm W)] (by kernel_rfl) ?_
        refine VO.k9 0 3 4 5 6 13 16 26 31 ?_
        refine outN ?_
        refine VC.rs ?_
        refine VO.mv ?_
        refine VO.mv ?_
        obtain ⟨x23, hx23⟩ : ∃ z_, (d0)[k]? = some z_ := ⟨_, List.getElem?_eq_getElem (by exact fin0_diskScript_ok)⟩
        obtain ⟨gg23, oo23, ec23, ea23, hce23, hre23⟩ := h0.elem hx23
        cases ea23
        obtain ⟨q23_A4, q23_c4, rfl, q23_0, q23_1, q23_2, q23_3, q23_4⟩ := open_law05Act (x0 := x23.1) (x1 := x23.2.1) (x2 := x23.2.2.1) (x3 := x23.2.2.2.1) (x4 := x23.2.2.2.2) hre23
        simp only [inK] at q23_0
        simp only [inK] at q23_1
        simp only [inK] at q23_2
        simp only [inK] at q23_3
        have q23_r4 := Rd.room q23_4
        refine VO.y rfl (.ixI k rfl rfl tsl22 rfl (by exact fin0_diskScript_ok)) ?_
        refine VO.y rfl (.fa rfl tst31 rfl) ?_
        refine VO.y rfl (.ld1 0 rfl tk27 rfl (hce23.at1 (j := 4) rfl)) ?_
        refine VO.callN 124 rfl fnOk28 rfl (fun W hW => LentBytes_ok W (Rd.mono q23_4 (hW.at (i := 0) rfl)) (by exact fin0_diskScript_ok)) (fun v24 m24 hv24 => ?_)
        obtain ⟨s24_0, rfl, f24_0⟩ := hv24
        obtain ⟨A24_0, c24_0, eq24_0, l24_0, k24_0⟩ := f24_0.slice
        subst eq24_0
        simp only [maxLen] at k24_0
        refine VO.as ?_
        refine VO.k10 0 3 4 5 6 7 13 16 26 31 ?_
        refine VC.seq ?_
        refine VC.seq ?_
        refine VC.regD _ 32 [(0, true), (1, true), (2, true), (3, true), (4, true), (5, true), (6, true), (7, true), (8, true), (9, true), (10, true), (11, true), (12, true), (13, true), (14, true), (16, true), (17, true), (18, true), (19, true), (20, true), (21, true), (22, true), (15, false), (23, false), (24, true), (25, true), (26, true), (27, true), (28, true), (29, true), (30, true), (31, true)] follows (by kernel_rfl) (fun _ h => h.sub [124, 119, 117, 0]) ?_
        refine VD.y rfl rfl (.inl rfl) (.mv rfl) ?_
        refine VD.y rfl rfl (.inl rfl) (.ixa (i := 1) (o := 1) rfl rfl tar46 rfl rfl rfl) ?_
        refine VD.y rfl rfl (.inl rfl) (.ld1 117 rfl tk25 rfl (cellsAt_one rfl rfl)) ?_
        refine VD.y rfl rfl (.inl rfl) (.mv rfl) ?_
        refine VD.y rfl rfl (.inl rfl) (.mv rfl) ?_
        refine VD.y rfl rfl (.inl rfl) (.ixI k rfl rfl tsl22 rfl (by exact fin0_diskScript_ok)) ?_
        refine VD.y rfl rfl (.inl rfl) (.ldA 0 rfl tk31 rfl hce23) ?_
        refine VD.y rfl rfl (.inl rfl) (.mv rfl) ?_
        refine VD.y rfl rfl (.inl rfl) (.mv rfl) ?_
        refine VD.y rfl rfl (.inl rfl) (.mv rfl) ?_
        refine VD.y rfl rfl (.inl rfl) (.ixI k rfl rfl tsl22 rfl (by exact fin0_diskScript_ok)) ?_
        refine VD.y rfl rfl (.inl rfl) (.fa rfl tst31 rfl) ?_
        refine VD.y rfl rfl (.inl rfl) (.ld1 0 rfl tk27 rfl (hce23.at1 (j := 4) rfl)) ?_
        refine VD.y rfl rfl (.inl rfl) (.lenS rfl tsl27) ?_
        have hs27 := (OwnL.rd (Ow.ownl f24_0 rfl mnil) (mle_refl _) (mle_nil _)).pre (j := x23.2.2.2.2.length) (by exact fin0_diskScript_ok)
        rw [List.take_left] at hs27
        refine VD.y rfl rfl (.inl rfl) (.slHI x23.2.2.2.2.length rfl rfl tsl27 rfl (by exact fin0_diskScript_ok)) ?_
        refine VD.y rfl rfl (.inl rfl) (.mv rfl) ?_
        refine VD.y rfl rfl (.inl rfl) (.ixa (i := 1) (o := 1) rfl rfl tar49 rfl rfl rfl) ?_
        refine VD.y rfl rfl (.inl rfl) (.ld1 119 rfl tk47 rfl (cellsAt_one rfl rfl)) ?_
        refine VD.y rfl rfl (.inl rfl) (.mv rfl) ?_
        refine VD.y rfl rfl (.inl rfl) (.mv rfl) ?_
        refine VD.y rfl rfl (.inl rfl) (.ixI k rfl rfl tsl22 rfl (by exact fin0_diskScript_ok)) ?_
        refine VD.y rfl rfl (.inl rfl) (.ldA 0 rfl tk31 rfl hce23) ?_
        refine VD.call 107 rfl rfl (.inl rfl) fnOk29 rfl rfl (fun _ _ h => h.sub [124, 119, 117, 0]) (fun W hW => done05_ok W (hW.at (i := 107) rfl) h_db (Rd.mono hre23 (hW.out (i := 107) (j := 0) rfl rfl)) (OwnL.rd (by have h_ := ((Ow.ownl f24_0 rfl mnil).pre (j := x23.2.2.2.2.length) (by exact fin0_diskScript_ok)); rw [List.take_left] at h_; exact h_) (hW.out (i := 107) (j := 124) rfl rfl) (mle_nil _)) (by assumption) (by exact fin0_diskScript_ok)) (fun v29 m29 hv29 => ?_)
        obtain ⟨rfl, w29_0⟩ := hv29
        have hfa30 := (act_ok (a := x23) (b := x23.2.2.2.2) (show okD db by assumption))
        have hfa31 := (act_w (a := x23) (b := x23.2.2.2.2) (show okD db by assumption))
        refine VD.call 113 rfl rfl (.inl rfl) fnOk30 rfl rfl (fun _ _ h => h.sub [124, 119, 117, 0]) (fun W hW => meant05_ok W (hW.at (i := 113) rfl) h_rb (Rd.mono hre23 (hW.out (i := 113) (j := 0) rfl rfl)) (by assumption) (by exact fin0_diskScript_ok)) (fun v32 m32 hv32 => ?_)
        obtain ⟨rfl, w32_0⟩ := hv32
        have hfa33 := (show okR (toR ((actD (fromR rb) x23 x23.2.2.2.2).1) rb.2.2.2.2.2.1) from okR_to (act_ok (show okD (fromR rb) from (show okR rb by assumption))) (nf_act (nf_from rb)))
        have hfa34 := (show wD (fromR (toR ((actD (fromR rb) x23 x23.2.2.2.2).1) rb.2.2.2.2.2.1)) ≤ _ by rw [from_to (act_ok (show okD (fromR rb) from (show okR rb by assumption))) (nf_act (nf_from rb))]; exact act_w (show okD (fromR rb) from (show okR rb by assumption)))
        refine VD.y rfl rfl (.inl rfl) (.neq rfl rfl) ?_
        refine VD.y rfl rfl (.inl rfl) (.mv rfl) ?_
        refine VD.dec (s := 63) rfl (fun hc35 => ?_) (fun hc35 => ?_)
        · -- FTTT
          exact absurd (by rw [hb.2]) hc35
        · -- FTTF
          refine VD.y rfl rfl (.inr ⟨_, _, rfl, _, rfl, rfl⟩) (.mv rfl) ?_
          refine VD.y rfl rfl (.inr ⟨_, _, rfl, _, rfl, rfl⟩) (.mv rfl) ?_
          refine VD.y rfl rfl (.inr ⟨_, _, rfl, _, rfl, rfl⟩) (.mv rfl) ?_
          refine VD.y rfl rfl (.inr ⟨_, _, rfl, _, rfl, rfl⟩) (.ixI k rfl rfl tsl22 rfl (by exact fin0_diskScript_ok)) ?_
          refine VD.y rfl rfl (.inr ⟨_, _, rfl, _, rfl, rfl⟩) (.fa rfl tst31 rfl) ?_
          refine VD.y rfl rfl (.inr ⟨_, _, rfl, _, rfl, rfl⟩) (.ld1 0 rfl tk27 rfl (hce23.at1 (j := 4) rfl)) ?_
          refine VD.nil rfl ?_ rfl
          refine VO.gcallN 137 rfl ⟨_, rfl, rfl⟩ fnOk31 rfl (fun W hW => KeptBytes_ok W (OwnL.rd (Ow.ownl f24_0 rfl mnil) (hW.at (i := 124) rfl) (mle_nil _)) (Rd.mono q23_4 (hW.at (i := 0) rfl)) (by exact fin0_diskScript_ok)) (fun v37 m37 hv37 => ?_)
          subst hv37
          refine VO.gy rfl ⟨_, rfl, rfl⟩ (.notD rfl) ?_
          refine VO.y rfl (.pF rfl rfl) ?_
          refine VO.k11 0 3 4 5 6 7 13 16 26 31 72 ?_
          refine outN ?_
          refine VC.cond rfl (fun hc38 => ?_) (fun hc38 => ?_)
          · -- FTTFT
            exact absurd rfl hc38
          · -- FTTFF
            refine VC.skip ?_
            refine outN ?_
            refine VC.rs ?_
            refine VO.mv ?_
            refine VO.call 124 rfl fnOk32 rfl rfl (fun W hW => OverBytes_ok W (hW.at (i := 124) rfl) (OwnL.ow (Ow.ownl f24_0 rfl mnil) rfl)) (fun v39 m39 hv39 => ?_)
            obtain ⟨rfl, w39_0⟩ := hv39
            have wl39_0 := slice_len w39_0
            refine VO.keep [124, 113, 107, 119, 117, 110, 104, 0] [(124, m39), (113, m32), (107, m29), (119, mone g18 (.cells [Value.pointer (some ⟨s10_0, 0, none⟩), Value.pointer (some ⟨s13_0, 0, none⟩)].toArray 49 (0, 0))), (117, mone g16 (.cells [Value.pointer (some ⟨s4_0, 0, none⟩), Value.pointer (some ⟨s7_0, 0, none⟩)].toArray 46 (0, 0))), (110, ra_m), (104, da_m), (0, wm W)] (by kernel_rfl) ?_
            refine VO.k11 0 3 4 5 6 7 13 16 26 31 72 ?_
            refine VC.rs ?_
            refine VO.y rfl (.ixa (i := 0) (o := 0) rfl rfl tar46 rfl rfl rfl) ?_
            refine VO.y rfl (.ld1 117 rfl tk25 rfl (cellsAt_one rfl rfl)) ?_
            refine VO.y rfl (.ixa (i := 0) (o := 0) rfl rfl tar49 rfl rfl rfl) ?_
            refine VO.y rfl (.ld1 119 rfl tk47 rfl (cellsAt_one rfl rfl)) ?_
            refine VO.gather (l := [da_m, ra_m]) 141 [104, 110] rfl (fun hg40 => ?_)
            refine VO.call 141 rfl fnOk33 rfl rfl (fun W hW => same05_ok W (hW.at (i := 141) rfl) hg40 h_da h_ra (by assumption) (by exact fin0_diskScript_ok) (by first | assumption | exact ha.2 | exact hb.2 | (rw [hea]; exact ha.2) | exact (act_keep ha).2 | exact (act_keep hb).2)) (fun v40 m40 hv40 => ?_)
            obtain ⟨p40_0, p40_1, rfl, hS40, w40_0, w40_1⟩ := hv40
            refine VO.inv _ (fun _ h => h.parts (i := 141) rfl hS40 [142, 143]) ?_
            refine VO.y rfl (.not rfl) ?_
            refine VO.mv ?_
            refine VO.gy rfl ⟨_, rfl, rfl⟩ (.ixa (i := 1) (o := 1) rfl rfl tar46 rfl rfl rfl) ?_
            refine VO.gy rfl ⟨_, rfl, rfl⟩ (.ld1 117 rfl tk25 rfl (cellsAt_one rfl rfl)) ?_
            refine VO.gy rfl ⟨_, rfl, rfl⟩ (.ixa (i := 1) (o := 1) rfl rfl tar49 rfl rfl rfl) ?_
            refine VO.gy rfl ⟨_, rfl, rfl⟩ (.ld1 119 rfl tk47 rfl (cellsAt_one rfl rfl)) ?_
            refine VO.gather (l := [m29, m32]) 145 [107, 113] rfl (fun hg44 => ?_)
            refine VO.gcall 145 rfl ⟨_, rfl, rfl⟩ fnOk33 rfl rfl (fun W hW => same05_ok W (hW.at (i := 145) rfl) hg44 w29_0 w32_0 (by assumption) (by exact fin0_diskScript_ok) (by first | assumption | exact ha.2 | exact hb.2 | (rw [hea]; exact ha.2) | exact (act_keep ha).2 | exact (act_keep hb).2)) (fun v44 m44 hv44 => ?_)
            obtain ⟨p44_0, p44_1, rfl, hS44, w44_0, w44_1⟩ := hv44
            refine VO.inv _ (fun _ h => h.parts (i := 145) rfl hS44 [146, 147]) ?_
            refine VO.gy rfl ⟨_, rfl, rfl⟩ (.not rfl) ?_
            refine VO.y rfl (.pF rfl rfl) ?_
            refine VO.k12 0 3 4 5 6 7 13 16 26 31 72 88 ?_
            refine VC.condF rfl ?_
            refine VC.skip ?_
            refine outBN ?_
            refine outN ?_
            refine VC.reg ?_
            refine VO.mv ?_
            refine VO.y rfl (.add (c := ((k + 1 : Nat) : Int)) rfl rfl (by omega) ⟨by exact fin0_diskScript_ok, by exact fin0_diskScript_ok⟩) ?_
            refine VO.as ?_
            refine VO.k12 0 3 4 5 6 7 13 16 26 31 72 88 ?_
            exact outN ⟨⟨k + 1, da, p40_0, ((actD db x23 x23.2.2.2.2).1), p44_0, ra, p40_1, (toR (actD (fromR rb) x23 x23.2.2.2.2).1 rb.2.2.2.2.2.1), p44_1⟩, ⟨by omega, by first | exact ha | exact act_keep ha, by first | exact hb | exact act_keep hb, by (have h_ := hsm.1 _ (List.mem_of_getElem? ‹d0[k]? = some _›); dsimp only; omega), by (have h_ := hsm.1 _ (List.mem_of_getElem? ‹d0[k]? = some _›); dsimp only; omega), w40_0, w44_0, w40_1, w44_1⟩, by (dsimp only; omega), ⟨⟨rfl, rfl, rfl, rfl, rfl, rfl, trivial⟩, fun _ h => Inv.sub (Inv.num (Inv.num (Inv.num (Inv.num h 142 104 rfl) 146 107 rfl) 143 110 rfl) 147 113 rfl) [119, 117, 113, 110, 107, 104, 0]⟩⟩
      · -- FTF
        refine VC.skip ?_
        refine outN ?_
        refine VC.rs ?_
        refine VO.mv ?_
        refine VO.mv ?_
        obtain ⟨x48, hx48⟩ : ∃ z_, (d0)[k]? = some z_ := ⟨_, List.getElem?_eq_getElem (by exact fin0_diskScript_ok)⟩
        obtain ⟨gg48, oo48, ec48, ea48, hce48, hre48⟩ := h0.elem hx48
        cases ea48
        obtain ⟨q48_A4, q48_c4, rfl, q48_0, q48_1, q48_2, q48_3, q48_4⟩ := open_law05Act (x0 := x48.1) (x1 := x48.2.1) (x2 := x48.2.2.1) (x3 := x48.2.2.2.1) (x4 := x48.2.2.2.2) hre48
        simp only [inK] at q48_0
        simp only [inK] at q48_1
        simp only [inK] at q48_2
        simp only [inK] at q48_3
        have q48_r4 := Rd.room q48_4
        refine VO.y rfl (.ixI k rfl rfl tsl22 rfl (by exact fin0_diskScript_ok)) ?_
        refine VO.y rfl (.fa rfl tst31 rfl) ?_
        refine VO.y rfl (.ld1 0 rfl tk27 rfl (hce48.at1 (j := 4) rfl)) ?_
        refine VO.callN 149 rfl fnOk28 rfl (fun W hW => LentBytes_ok W (Rd.mono q48_4 (hW.at (i := 0) rfl)) (by exact fin0_diskScript_ok)) (fun v49 m49 hv49 => ?_)
        obtain ⟨s49_0, rfl, f49_0⟩ := hv49
        obtain ⟨A49_0, c49_0, eq49_0, l49_0, k49_0⟩ := f49_0.slice
        subst eq49_0
        simp only [maxLen] at k49_0
        refine VO.as ?_
        refine VO.keep [149, 119, 117, 113, 110, 107, 104, 0] [(149, m49), (119, mone g18 (.cells [Value.pointer (some ⟨s10_0, 0, none⟩), Value.pointer (some ⟨s13_0, 0, none⟩)].toArray 49 (0, 0))), (117, mone g16 (.cells [Value.pointer (some ⟨s4_0, 0, none⟩), Value.pointer (some ⟨s7_0, 0, none⟩)].toArray 46 (0, 0))), (113, rb_m), (110, ra_m), (107, db_m), (104, da_m), (0, wm W)] (by kernel_rfl) ?_
        refine VO.k10 0 3 4 5 6 7 13 16 26 31 ?_
        refine VC.seq ?_
        refine VC.seq ?_
        refine VC.regD _ 32 [(0, true), (1, true), (2, true), (3, true), (4, true), (5, true), (6, true), (7, true), (8, true), (9, true), (10, true), (11, true), (12, true), (13, true), (14, true), (16, true), (17, true), (18, true), (19, true), (20, true), (21, true), (22, true), (15, false), (23, false), (24, true), (25, true), (26, true), (27, true), (28, true), (29, true), (30, true), (31, true)] follows (by kernel_rfl) (fun _ h => h.sub [149, 119, 117, 0]) ?_
        refine VD.y rfl rfl (.inl rfl) (.mv rfl) ?_
        refine VD.y rfl rfl (.inl rfl) (.ixa (i := 0) (o := 0) rfl rfl tar46 rfl rfl rfl) ?_
        refine VD.y rfl rfl (.inl rfl) (.ld1 117 rfl tk25 rfl (cellsAt_one rfl rfl)) ?_
        refine VD.y rfl rfl (.inl rfl) (.mv rfl) ?_
        refine VD.y rfl rfl (.inl rfl) (.mv rfl) ?_
        refine VD.y rfl rfl (.inl rfl) (.ixI k rfl rfl tsl22 rfl (by exact fin0_diskScript_ok)) ?_
        refine VD.y rfl rfl (.inl rfl) (.ldA 0 rfl tk31 rfl hce48) ?_
        refine VD.y rfl rfl (.inl rfl) (.mv rfl) ?_
        refine VD.y rfl rfl (.inl rfl) (.mv rfl) ?_
        refine VD.y rfl rfl (.inl rfl) (.mv rfl) ?_
        refine VD.y rfl rfl (.inl rfl) (.ixI k rfl rfl tsl22 rfl (by exact fin0_diskScript_ok)) ?_
        refine VD.y rfl rfl (.inl rfl) (.fa rfl tst31 rfl) ?_
        refine VD.y rfl rfl (.inl rfl) (.ld1 0 rfl tk27 rfl (hce48.at1 (j := 4) rfl)) ?_
        refine VD.y rfl rfl (.inl rfl) (.lenS rfl tsl27) ?_
        have hs52 := (OwnL.rd (Ow.ownl f49_0 rfl mnil) (mle_refl _) (mle_nil _)).pre (j := x48.2.2.2.2.length) (by exact fin0_diskScript_ok)
        rw [List.take_left] at hs52
        refine VD.y rfl rfl (.inl rfl) (.slHI x48.2.2.2.2.length rfl rfl tsl27 rfl (by exact fin0_diskScript_ok)) ?_
        refine VD.y rfl rfl (.inl rfl) (.mv rfl) ?_
        refine VD.y rfl rfl (.inl rfl) (.ixa (i := 0) (o := 0) rfl rfl tar49 rfl rfl rfl) ?_
        refine VD.y rfl rfl (.inl rfl) (.ld1 119 rfl tk47 rfl (cellsAt_one rfl rfl)) ?_
        refine VD.y rfl rfl (.inl rfl) (.mv rfl) ?_
        refine VD.y rfl rfl (.inl rfl) (.mv rfl) ?_
        refine VD.y rfl rfl (.inl rfl) (.ixI k rfl rfl tsl22 rfl (by exact fin0_diskScript_ok)) ?_
        refine VD.y rfl rfl (.inl rfl) (.ldA 0 rfl tk31 rfl hce48) ?_
        refine VD.call 104 rfl rfl (.inl rfl) fnOk29 rfl rfl (fun _ _ h => h.sub [149, 119, 117, 0]) (fun W hW => done05_ok W (hW.at (i := 104) rfl) h_da (Rd.mono hre48 (hW.out (i := 104) (j := 0) rfl rfl)) (OwnL.rd (by have h_ := ((Ow.ownl f49_0 rfl mnil).pre (j := x48.2.2.2.2.length) (by exact fin0_diskScript_ok)); rw [List.take_left] at h_; exact h_) (hW.out (i := 104) (j := 149) rfl rfl) (mle_nil _)) (by assumption) (by exact fin0_diskScript_ok)) (fun v54 m54 hv54 => ?_)
        obtain ⟨rfl, w54_0⟩ := hv54
        have hfa55 := (act_ok (a := x48) (b := x48.2.2.2.2) (show okD da by assumption))
        have hfa56 := (act_w (a := x48) (b := x48.2.2.2.2) (show okD da by assumption))
        refine VD.call 110 rfl rfl (.inl rfl) fnOk30 rfl rfl (fun _ _ h => h.sub [149, 119, 117, 0]) (fun W hW => meant05_ok W (hW.at (i := 110) rfl) h_ra (Rd.mono hre48 (hW.out (i := 110) (j := 0) rfl rfl)) (by assumption) (by exact fin0_diskScript_ok)) (fun v57 m57 hv57 => ?_)
        obtain ⟨rfl, w57_0⟩ := hv57
        have hfa58 := (show okR (toR ((actD (fromR ra) x48 x48.2.2.2.2).1) ra.2.2.2.2.2.1) from okR_to (act_ok (show okD (fromR ra) from (show okR ra by assumption))) (nf_act (nf_from ra)))
        have hfa59 := (show wD (fromR (toR ((actD (fromR ra) x48 x48.2.2.2.2).1) ra.2.2.2.2.2.1)) ≤ _ by rw [from_to (act_ok (show okD (fromR ra) from (show okR ra by assumption))) (nf_act (nf_from ra))]; exact act_w (show okD (fromR ra) from (show okR ra by assumption)))
        refine VD.y rfl rfl (.inl rfl) (.neq rfl rfl) ?_
        refine VD.y rfl rfl (.inl rfl) (.mv rfl) ?_
        refine VD.dec (s := 63) rfl (fun hc60 => ?_) (fun hc60 => ?_)
        · -- FTFT
          exact absurd (by rw [ha.2]) hc60
        · -- FTFF
          refine VD.y rfl rfl (.inr ⟨_, _, rfl, _, rfl, rfl⟩) (.mv rfl) ?_
          refine VD.y rfl rfl (.inr ⟨_, _, rfl, _, rfl, rfl⟩) (.mv rfl) ?_
          refine VD.y rfl rfl (.inr ⟨_, _, rfl, _, rfl, rfl⟩) (.mv rfl) ?_
          refine VD.y rfl rfl (.inr ⟨_, _, rfl, _, rfl, rfl⟩) (.ixI k rfl rfl tsl22 rfl (by exact fin0_diskScript_ok)) ?_
          refine VD.y rfl rfl (.inr ⟨_, _, rfl, _, rfl, rfl⟩) (.fa rfl tst31 rfl) ?_
          refine VD.y rfl rfl (.inr ⟨_, _, rfl, _, rfl, rfl⟩) (.ld1 0 rfl tk27 rfl (hce48.at1 (j := 4) rfl)) ?_
          refine VD.nil rfl ?_ rfl
          refine VO.gcallN 162 rfl ⟨_, rfl, rfl⟩ fnOk31 rfl (fun W hW => KeptBytes_ok W (OwnL.rd (Ow.ownl f49_0 rfl mnil) (hW.at (i := 149) rfl) (mle_nil _)) (Rd.mono q48_4 (hW.at (i := 0) rfl)) (by exact fin0_diskScript_ok)) (fun v62 m62 hv62 => ?_)
          subst hv62
          refine VO.gy rfl ⟨_, rfl, rfl⟩ (.notD rfl) ?_
          refine VO.y rfl (.pF rfl rfl) ?_
          refine VO.k11 0 3 4 5 6 7 13 16 26 31 72 ?_
          refine outN ?_
          refine VC.cond rfl (fun hc63 => ?_) (fun hc63 => ?_)
          · -- FTFFT
            exact absurd rfl hc63
          · -- FTFFF
            refine VC.skip ?_
            refine outN ?_
            refine VC.rs ?_
            refine VO.mv ?_
            refine VO.call 149 rfl fnOk32 rfl rfl (fun W hW => OverBytes_ok W (hW.at (i := 149) rfl) (OwnL.ow (Ow.ownl f49_0 rfl mnil) rfl)) (fun v64 m64 hv64 => ?_)
            obtain ⟨rfl, w64_0⟩ := hv64
            have wl64_0 := slice_len w64_0
            refine VO.k11 0 3 4 5 6 7 13 16 26 31 72 ?_
            refine VC.rs ?_
            refine VO.y rfl (.ixa (i := 0) (o := 0) rfl rfl tar46 rfl rfl rfl) ?_
            refine VO.y rfl (.ld1 117 rfl tk25 rfl (cellsAt_one rfl rfl)) ?_
            refine VO.y rfl (.ixa (i := 0) (o := 0) rfl rfl tar49 rfl rfl rfl) ?_
            refine VO.y rfl (.ld1 119 rfl tk47 rfl (cellsAt_one rfl rfl)) ?_
            refine VO.gather (l := [m54, m57]) 166 [104, 110] rfl (fun hg65 => ?_)
            refine VO.call 166 rfl fnOk33 rfl rfl (fun W hW => same05_ok W (hW.at (i := 166) rfl) hg65 w54_0 w57_0 (by assumption) (by exact fin0_diskScript_ok) (by first | assumption | exact ha.2 | exact hb.2 | (rw [hea]; exact ha.2) | exact (act_keep ha).2 | exact (act_keep hb).2)) (fun v65 m65 hv65 => ?_)
            obtain ⟨p65_0, p65_1, rfl, hS65, w65_0, w65_1⟩ := hv65
            refine VO.inv _ (fun _ h => h.parts (i := 166) rfl hS65 [167, 168]) ?_
            refine VO.y rfl (.not rfl) ?_
            refine VO.mv ?_
            refine VO.gy rfl ⟨_, rfl, rfl⟩ (.ixa (i := 1) (o := 1) rfl rfl tar46 rfl rfl rfl) ?_
            refine VO.gy rfl ⟨_, rfl, rfl⟩ (.ld1 117 rfl tk25 rfl (cellsAt_one rfl rfl)) ?_
            refine VO.gy rfl ⟨_, rfl, rfl⟩ (.ixa (i := 1) (o := 1) rfl rfl tar49 rfl rfl rfl) ?_
            refine VO.gy rfl ⟨_, rfl, rfl⟩ (.ld1 119 rfl tk47 rfl (cellsAt_one rfl rfl)) ?_
            refine VO.gather (l := [db_m, rb_m]) 170 [107, 113] rfl (fun hg69 => ?_)
            refine VO.gcall 170 rfl ⟨_, rfl, rfl⟩ fnOk33 rfl rfl (fun W hW => same05_ok W (hW.at (i := 170) rfl) hg69 h_db h_rb (by assumption) (by exact fin0_diskScript_ok) (by first | assumption | exact ha.2 | exact hb.2 | (rw [hea]; exact ha.2) | exact (act_keep ha).2 | exact (act_keep hb).2)) (fun v69 m69 hv69 => ?_)
            obtain ⟨p69_0, p69_1, rfl, hS69, w69_0, w69_1⟩ := hv69
            refine VO.inv _ (fun _ h => h.parts (i := 170) rfl hS69 [171, 172]) ?_
            refine VO.gy rfl ⟨_, rfl, rfl⟩ (.not rfl) ?_
            refine VO.y rfl (.pF rfl rfl) ?_
            refine VO.keep [171, 172, 167, 168, 149, 119, 117, 0] [(171, p69_0), (172, p69_1), (167, p65_0), (168, p65_1), (149, m64), (119, mone g18 (.cells [Value.pointer (some ⟨s10_0, 0, none⟩), Value.pointer (some ⟨s13_0, 0, none⟩)].toArray 49 (0, 0))), (117, mone g16 (.cells [Value.pointer (some ⟨s4_0, 0, none⟩), Value.pointer (some ⟨s7_0, 0, none⟩)].toArray 46 (0, 0))), (0, wm W)] (by kernel_rfl) ?_
            refine VO.k12 0 3 4 5 6 7 13 16 26 31 72 88 ?_
            refine VC.condF rfl ?_
            refine VC.skip ?_
            refine outBN ?_
            refine outN ?_
            refine VC.reg ?_
            refine VO.mv ?_
            refine VO.y rfl (.add (c := ((k + 1 : Nat) : Int)) rfl rfl (by omega) ⟨by exact fin0_diskScript_ok, by exact fin0_diskScript_ok⟩) ?_
            refine VO.as ?_
            refine VO.k12 0 3 4 5 6 7 13 16 26 31 72 88 ?_
            exact outN ⟨⟨k + 1, ((actD da x48 x48.2.2.2.2).1), p65_0, db, p69_0, (toR (actD (fromR ra) x48 x48.2.2.2.2).1 ra.2.2.2.2.2.1), p65_1, rb, p69_1⟩, ⟨by omega, by first | exact ha | exact act_keep ha, by first | exact hb | exact act_keep hb, by (have h_ := hsm.1 _ (List.mem_of_getElem? ‹d0[k]? = some _›); dsimp only; omega), by (have h_ := hsm.1 _ (List.mem_of_getElem? ‹d0[k]? = some _›); dsimp only; omega), w65_0, w69_0, w65_1, w69_1⟩, by (dsimp only; omega), ⟨⟨rfl, rfl, rfl, rfl, rfl, rfl, trivial⟩, fun _ h => Inv.sub (Inv.num (Inv.num (Inv.num (Inv.num h 167 104 rfl) 171 107 rfl) 168 110 rfl) 172 113 rfl) [119, 117, 113, 110, 107, 104, 0]⟩⟩
    · -- FF
      refine VC.exit ?_
      refine outE ?_
      refine outE ?_
      refine outBB ?_
      refine outN ?_
      refine VC.rs ?_
      refine VO.as ?_
      refine VO.k8 0 3 4 5 8 13 16 26 ?_
      refine VC.seq ?_
      refine VC.rs ?_
      refine VO.as ?_
      refine VO.k9 0 3 4 5 8 9 13 16 26 ?_
      refine VC.block ?_
      refine VC.inv ((173, mnil) :: _) (fun _ h => h.nilc 173) ?_
      refine VC.loop (G := Nat × (List (List UInt8)) × (Option Addr) × Nat × Mem × DdiskDisk × Mem) (fun g => [(8, Value.slice (g.2.2.1) ((g.2.1).length) ((g.2.2.2.1))), (9, Value.int .i64 ((((g.1) : Nat) : Int))), (0, Value.slice A0 (d0.length) (c0)), (3, Value.pointer (some ⟨g16, 0, none⟩)), (4, Value.pointer (some ⟨g18, 0, none⟩)), (5, Value.int .i64 (((k : Nat) : Int))), (13, Value.bool false), (16, Value.bool (decide (¬ (smallA d0)))), (26, Value.bool (decide (((k : Nat) : Int) < ((d0.length : Nat) : Int))))]) (fun g => [(173, (g.2.2.2.2.1)), (119, mone g18 (.cells [Value.pointer (some ⟨s10_0, 0, none⟩), Value.pointer (some ⟨s13_0, 0, none⟩)].toArray 49 (0, 0))), (117, mone g16 (.cells [Value.pointer (some ⟨s4_0, 0, none⟩), Value.pointer (some ⟨s7_0, 0, none⟩)].toArray 46 (0, 0))), (113, rb_m), (110, ra_m), (107, db_m), (104, (g.2.2.2.2.2.2)), (0, wm W)]) (fun g => ((g.1) ≤ 4) ∧ ((g.2.2.2.2.2.1) = da) ∧ ((g.2.1).length = 2 * (g.1)) ∧ (∀ x ∈ (g.2.1), x.length ≤ 200000) ∧ (Ow (.sl (.sl .byte)) (g.2.2.2.2.1) [.slice (g.2.2.1) (g.2.1).length (g.2.2.2.1)] (g.2.1)) ∧ (Ow (.ptr TdiskDisk) (g.2.2.2.2.2.2) [.pointer (some ⟨s4_0, 0, none⟩)] (s4_0, (g.2.2.2.2.2.1)))) (fun g => 4 - (g.1)) (0, [], none, 0, mnil, da, da_m) (⟨by omega, by rfl, by rfl, by (intro x_ hx_; cases hx_), (Ow.nil (.sl .byte) mnil), h_da⟩) ⟨⟨rfl, rfl, rfl, rfl, rfl, rfl, rfl, rfl, rfl, trivial⟩, fun _ h => h.sub [173, 119, 117, 113, 110, 107, 104, 0]⟩ ?_
      rintro ⟨f, all, all_A, all_c, all_m, ea, ea_m⟩ ⟨hf, hea, hal, hax, h_all, h_ea⟩
      replace hf : f ≤ 4 := hf
      replace hea : ea = da := hea
      replace hal : all.length = 2 * f := hal
      replace hax : ∀ x ∈ all, x.length ≤ 200000 := hax
      replace h_all : Ow (.sl (.sl .byte)) all_m [.slice all_A all.length all_c] all := h_all
      replace h_ea : Ow (.ptr TdiskDisk) ea_m [.pointer (some ⟨s4_0, 0, none⟩)] (s4_0, ea) := h_ea
      show VC _ _ _ _ _ [(8, Value.slice all_A (all.length) (all_c)), (9, Value.int .i64 (((f : Nat) : Int))), (0, Value.slice A0 (d0.length) (c0)), (3, Value.pointer (some ⟨g16, 0, none⟩)), (4, Value.pointer (some ⟨g18, 0, none⟩)), (5, Value.int .i64 (((k : Nat) : Int))), (13, Value.bool false), (16, Value.bool (decide (¬ (smallA d0)))), (26, Value.bool (decide (((k : Nat) : Int) < ((d0.length : Nat) : Int))))] [(173, all_m), (119, mone g18 (.cells [Value.pointer (some ⟨s10_0, 0, none⟩), Value.pointer (some ⟨s13_0, 0, none⟩)].toArray 49 (0, 0))), (117, mone g16 (.cells [Value.pointer (some ⟨s4_0, 0, none⟩), Value.pointer (some ⟨s7_0, 0, none⟩)].toArray 46 (0, 0))), (113, rb_m), (110, ra_m), (107, db_m), (104, ea_m), (0, wm W)]
      have l_all : all.length ≤ all_c := by obtain ⟨_, _, he, hl, _⟩ := h_all.slice; simp only [Value.slice.injEq] at he; omega
      have k_all : all_c ≤ 9223372036854775807 := by obtain ⟨_, _, he, _, hl⟩ := h_all.slice; simp only [Value.slice.injEq, maxLen] at he hl; omega
      have hoe : okD ea := by rw [hea]; exact ha.1
      have hwe : wD ea = wD da := by rw [hea]
      refine VC.seq ?_
      refine VC.rs ?_
      refine VO.mv ?_
      refine VO.y rfl (.lss rfl rfl) ?_
      refine VO.keep [173, 119, 117, 113, 110, 107, 104, 0] [(173, all_m), (119, mone g18 (.cells [Value.pointer (some ⟨s10_0, 0, none⟩), Value.pointer (some ⟨s13_0, 0, none⟩)].toArray 49 (0, 0))), (117, mone g16 (.cells [Value.pointer (some ⟨s4_0, 0, none⟩), Value.pointer (some ⟨s7_0, 0, none⟩)].toArray 46 (0, 0))), (113, rb_m), (110, ra_m), (107, db_m), (104, ea_m), (0, wm W)] (by kernel_rfl) ?_
      refine VO.k10 0 3 4 5 8 9 13 16 26 90 ?_
      refine VC.cond rfl (fun hc74 => ?_) (fun hc74 => ?_)
      · -- FFT
        refine VC.skip ?_
        refine outN ?_
        refine VC.seq ?_
        refine VC.block ?_
        refine VC.rs ?_
        refine VO.y rfl (.ixa (i := 0) (o := 0) rfl rfl tar46 rfl rfl rfl) ?_
        refine VO.y rfl (.ld1 117 rfl tk25 rfl (cellsAt_one rfl rfl)) ?_
        refine VO.mv ?_
        refine VO.call 104 rfl fnOk18 rfl rfl (fun W hW => dRead_ok W (hW.at (i := 104) rfl) h_ea ((f : Nat) : Int) (by simp only [inK]; (exact fin0_diskScript_ok)) (by assumption) (by exact fin0_diskScript_ok)) (fun v75 m75 hv75 => ?_)
        obtain ⟨s75_0, p75_0, p75_1, rfl, hS75, f75_0, w75_0⟩ := hv75
        refine VO.inv _ (fun _ h => h.parts (i := 104) rfl hS75 [176, 177]) ?_
        have hfa78 := (read_size ea ((f : Nat) : Int))
        obtain ⟨A75_0, c75_0, eq75_0, l75_0, k75_0⟩ := f75_0.slice
        subst eq75_0
        simp only [maxLen] at k75_0
        refine VO.mv ?_
        refine VO.y rfl (.ext rfl rfl) ?_
        refine VO.y rfl (.ext rfl rfl) ?_
        refine VO.as ?_
        refine VO.as ?_
        refine VO.k11 0 3 4 5 8 9 10 13 16 26 90 ?_
        refine VC.reg ?_
        refine VO.mv ?_
        refine VO.mv ?_
        refine VO.y rfl (.ixa (i := 0) (o := 0) rfl rfl tar46 rfl rfl rfl) ?_
        refine VO.y rfl (.ld1 117 rfl tk25 rfl (cellsAt_one rfl rfl)) ?_
        refine VO.mv ?_
        refine VO.call 177 rfl fnOk21 rfl rfl (fun W hW => dDurable_ok W (hW.at (i := 177) rfl) w75_0 ((f : Nat) : Int) (by simp only [inK]; (exact fin0_diskScript_ok)) (by exact fin0_diskScript_ok)) (fun v79 m79 hv79 => ?_)
        obtain ⟨s79_0, p79_0, p79_1, rfl, hS79, f79_0, w79_0⟩ := hv79
        refine VO.inv _ (fun _ h => h.parts (i := 177) rfl hS79 [180, 181]) ?_
        have hfa82 := (durable_size ea ((f : Nat) : Int))
        obtain ⟨A79_0, c79_0, eq79_0, l79_0, k79_0⟩ := f79_0.slice
        subst eq79_0
        simp only [maxLen] at k79_0
        refine VO.bsl (cs := [Value.slice A75_0 (((dRead ea ((f : Nat) : Int)).1).length) (c75_0), Value.slice A79_0 ((dDurable ea ((f : Nat) : Int)).length) (c79_0)]) 184 rfl rfl tsl54 tz27 rfl rfl (fun g83 => ?_)
        refine VO.gather (l := [mone g83 (.cells [Value.slice A75_0 (((dRead ea ((f : Nat) : Int)).1).length) (c75_0), Value.slice A79_0 ((dDurable ea ((f : Nat) : Int)).length) (c79_0)].toArray 27 (0, 0)), p75_0, p79_0]) 187 [184, 176, 180] rfl (fun hg86 => ?_)
        have ho86 : Ow (.sl (.sl .byte)) (muns [mone g83 (.cells [Value.slice A75_0 (((dRead ea ((f : Nat) : Int)).1).length) (c75_0), Value.slice A79_0 ((dDurable ea ((f : Nat) : Int)).length) (c79_0)].toArray 27 (0, 0)), p75_0, p79_0]) [Value.slice (some ⟨g83, 0, none⟩) (2) (2)] [(dRead ea ((f : Nat) : Int)).1, dDurable ea ((f : Nat) : Int)] := Ow.lit 2 (Seps.grp1 (ls := [[p75_0], [p79_0]]) hg86) (OwAs.cons (m := muns [p75_0]) (c1 := [Value.slice A75_0 (((dRead ea ((f : Nat) : Int)).1).length) (c75_0)]) (Ow.up (OwnL.ow (Ow.ownl f75_0 rfl mnil) rfl) ((Seps.self hg86 (List.Sublist.cons _ (List.Sublist.cons_cons _ (List.Sublist.cons _ List.Sublist.slnil)))).1 _ (.head _))) (OwAs.cons (m := muns [p79_0]) (c1 := [Value.slice A79_0 ((dDurable ea ((f : Nat) : Int)).length) (c79_0)]) (Ow.up (OwnL.ow (Ow.ownl f79_0 rfl mnil) rfl) ((Seps.self hg86 (List.Sublist.cons _ (List.Sublist.cons _ (List.Sublist.cons_cons _ List.Sublist.slnil)))).1 _ (.head _))) OwAs.nil)) rfl rfl
        refine VO.appOs (e := (.sl .byte)) 173 187 rfl rfl rfl tsl54 tz27 rfl rfl rfl h_all ho86 Try.underlying54 (by simp only [maxLen]; (exact fin0_diskScript_ok)) (by exact fin0_diskScript_ok) (by decide) (fun v85 m85 ho85 => ?_)
        obtain ⟨A85, c85, rfl, l85, k85⟩ := ho85.slice
        simp only [maxLen] at k85
        refine VO.as ?_
        refine VO.k11 0 3 4 5 8 9 10 13 16 26 90 ?_
        refine outBN ?_
        refine outN ?_
        refine VC.reg ?_
        refine VO.mv ?_
        refine VO.y rfl (.add (c := ((f + 1 : Nat) : Int)) rfl rfl (by omega) ⟨by exact fin0_diskScript_ok, by exact fin0_diskScript_ok⟩) ?_
        refine VO.as ?_
        refine VO.keep [173, 181, 119, 117, 113, 110, 107, 0] [(173, m85), (181, p79_1), (119, mone g18 (.cells [Value.pointer (some ⟨s10_0, 0, none⟩), Value.pointer (some ⟨s13_0, 0, none⟩)].toArray 49 (0, 0))), (117, mone g16 (.cells [Value.pointer (some ⟨s4_0, 0, none⟩), Value.pointer (some ⟨s7_0, 0, none⟩)].toArray 46 (0, 0))), (113, rb_m), (110, ra_m), (107, db_m), (0, wm W)] (by kernel_rfl) ?_
        refine VO.k11 0 3 4 5 8 9 10 13 16 26 90 ?_
        exact outN ⟨⟨f + 1, all ++ ([(dRead ea ((f : Nat) : Int)).1, dDurable ea ((f : Nat) : Int)]), A85, c85, m85, ea, p79_1⟩, ⟨by omega, by exact hea, by (simp only [List.length_append, List.length_cons, List.length_nil]; omega), by exact two_more hax (by have h_ := read_size ea ((f : Nat) : Int); omega) (by have h_ := durable_size ea ((f : Nat) : Int); omega), ho85, w79_0⟩, by (dsimp only; omega), ⟨⟨rfl, rfl, rfl, rfl, rfl, rfl, rfl, rfl, rfl, trivial⟩, fun _ h => Inv.sub (Inv.num h 181 104 rfl) [173, 119, 117, 113, 110, 107, 104, 0]⟩⟩
      · -- FFF
        refine VC.exit ?_
        refine outE ?_
        refine outE ?_
        refine outBB ?_
        refine outN ?_
        refine VC.rs ?_
        refine VO.mv ?_
        refine VO.call 173 rfl fnOk34 rfl rfl (fun W hW => ApartBytes_ok W (hW.at (i := 173) rfl) h_all (by exact fin0_diskScript_ok) (by exact fun x hx => by have h_ := hax x hx; omega)) (fun v88 m88 hv88 => ?_)
        subst hv88
        refine VO.mv ?_
        refine VO.gy rfl ⟨_, rfl, rfl⟩ (.ixa (i := 0) (o := 0) rfl rfl tar46 rfl rfl rfl) ?_
        refine VO.gy rfl ⟨_, rfl, rfl⟩ (.ld1 117 rfl tk25 rfl (cellsAt_one rfl rfl)) ?_
        refine VO.gy rfl ⟨_, rfl, rfl⟩ (.ixa (i := 0) (o := 0) rfl rfl tar49 rfl rfl rfl) ?_
        refine VO.gy rfl ⟨_, rfl, rfl⟩ (.ld1 119 rfl tk47 rfl (cellsAt_one rfl rfl)) ?_
        refine VO.gather (l := [ea_m, ra_m]) 190 [104, 110] rfl (fun hg89 => ?_)
        refine VO.gcall 190 rfl ⟨_, rfl, rfl⟩ fnOk33 rfl rfl (fun W hW => same05_ok W (hW.at (i := 190) rfl) hg89 h_ea h_ra (by assumption) (by exact fin0_diskScript_ok) (by first | assumption | exact ha.2 | exact hb.2 | (rw [hea]; exact ha.2) | exact (act_keep ha).2 | exact (act_keep hb).2)) (fun v89 m89 hv89 => ?_)
        obtain ⟨p89_0, p89_1, rfl, hS89, w89_0, w89_1⟩ := hv89
        refine VO.inv _ (fun _ h => h.parts (i := 190) rfl hS89 [191, 192]) ?_
        refine VO.y rfl (.pT rfl rfl) ?_
        refine VO.as ?_
        refine VO.k11 0 2 3 4 5 8 9 13 16 26 90 ?_
        refine VC.ret ?_
        refine ⟨_, _, res_run (rs := [.tmp 2]) rfl (.tmp rfl .nil), fun W_ hI => out_of (l := []) hI [] rfl rfl (mle_refl _) (fun hS_ => ?_)⟩
        dsimp only [packV]
        all_goals (first | rfl | (simp [*]; done))
end
section
set_option linter.unusedVariables false
set_option maxRecDepth 4000
open Go.ChangeShapes Go.WideShapes Go.ChangeAt Go.RowKit
theorem diskScript_ok0 : tyOk Try.prog 60 (.sl Tlaw05Act) (.inl 22) = true := by kernel_rfl
set_option maxRecDepth 100000 in
theorem diskScript_lifted (os : Os) (started : os.Started) (H : Type) (enc : TypeId × Value → H) :
    ReturnsInHanded {} Try.checked os 6 .any (Rows.diskScriptSpec.pre6 enc Try.prog Try.f6 Rows.diskScriptRow.domain false) (Rows.diskScriptSpec.post enc Try.prog Try.f6 false true false false) := by
  refine returnsInHanded_of_change (C := Try.checked) (by kernel_rfl) started (by kernel_rfl) Try.func6
    (ChangeSpec.witness6 (enc := enc) (C := Try.checked) false ⟨#[], #[.slice none 0 0], []⟩ 8 (by kernel_rfl) (by kernel_rfl) (by kernel_rfl) (by kernel_rfl)) ?_
  intro W base args ds gs before hval0 hW hcnd _
  have hval : ∀ (j : Nat) t v, Try.f6.params[j]? = some t → args[j]? = some v → Value.okWide Try.prog W .any base t v := hval0
  have hW' := hW
  obtain ⟨p, q, hA0, hV, rfl, hfz, hnd⟩ := hW
  have hA : DataW.TrodAll enc Try.prog W 0 (fun _ => true) true Try.f6.params.toList args.toList ds p := hA0
  rw [Try.params6] at hA hval
  clear hA0 hval0
  obtain ⟨args⟩ := args
  obtain ⟨v0, r0, d0, e0, p0, q0, ha0, rfl, rfl, h0, hA0⟩ := trodAll_cons hA
  simp only at ha0; subst ha0
  obtain ⟨rfl, rfl, rfl⟩ := trodAll_nil hA0
  obtain ⟨x0, hx0⟩ := arg_sl 60 diskScript_ok0 Try.underlying22 (hval 0 22 v0 rfl rfl) h0
  refine (calls_of (diskScript_ok W hx0)).mono fun e W' ⟨he, hg⟩ => ?_
  subst he
  exact ⟨_, rfl, law_post hW' hg laidOut_ok (by kernel_rfl) rfl Try.underlying4 rfl rfl rfl rfl⟩
theorem diskScript_joined : joinedFacts Try.prog 6 Try.f6 Rows.diskScriptSpec Rows.diskScriptRow = true := by
  unfold joinedFacts
  rw [laidOut_ok, mapsRowed_ok, stopsHeard_ok, mayEnter_ok, lifts_ok, make_ok]
  kernel_rfl
theorem diskScript_proved : Rows.DiskScriptSaid :=
  OpenClaim.holds_of_wide 6 Try.f6 rfl rfl rfl rfl rfl rfl rfl ⟨rfl, rfl, rfl, rfl, rfl⟩ rfl rfl rfl rfl rfl (by kernel_rfl) Try.func6 diskScript_joined
    (of_decide_eq_true (by kernel_rfl)) (by unfold Func.isWrapper; first | (rw [if_pos (by decide +kernel)]; kernel_rfl) | (rw [if_neg (by decide +kernel)]; exact ⟨rfl, rfl⟩))
    (fun os started H enc _ => diskScript_lifted os started H enc)
#print axioms diskScript_proved
end
end Go.Proofs.Ytmhalhadgclffaa
