/- Part 3 of the proof of LDiskNil: what it needs of the library, the walks and the plain laws. Conditions: those named in each theorem. -/
import Derived.Test.YtmhalhadgclffaaLDiskNilM2
namespace Go.Proofs.Ytmhalhadgclffaa
section
set_option linter.unusedVariables false
set_option linter.unusedSimpArgs false
set_option maxRecDepth 4000
theorem fin0_dStart_ok {P : Prop} (h : P := by first | (rw [start_bad1 (by assumption)] <;> rfl) | (rw [start_bad2 (by assumption) (.inl (by simpa using ‹_›))] <;> rfl) | (rw [start_bad2 (by assumption) (.inr (.inl (by assumption)))] <;> rfl) | (rw [start_bad2 (by assumption) (.inr (.inr (by assumption)))] <;> rfl) | (rw [start_go (by assumption) (by simpa using ‹_›) (by assumption) (by assumption), torn_nil (by omega)] <;> rfl) | (rw [start_go (by assumption) (by simpa using ‹_›) (by assumption) (by assumption), torn_no (by assumption) (by assumption)] <;> rfl) | (rw [start_go (by assumption) (by simpa using ‹_›) (by assumption) (by assumption), torn_yes (by assumption) (by assumption), stepQ, setQ0 ‹_ = (0 : Int)›, getF0 ‹_ = (0 : Int)›] <;> rfl) | (rw [start_go (by assumption) (by simpa using ‹_›) (by assumption) (by assumption), torn_yes (by assumption) (by assumption), stepQ, setQ1 ‹_ = (1 : Int)›, getF1 ‹_ = (1 : Int)›] <;> rfl) | (rw [start_go (by assumption) (by simpa using ‹_›) (by assumption) (by assumption), torn_yes (by assumption) (by assumption), stepQ, setQ2 ‹_ = (2 : Int)›, getF2 ‹_ = (2 : Int)›] <;> rfl) | (rw [start_go (by assumption) (by simpa using ‹_›) (by assumption) (by assumption), torn_yes (by assumption) (by assumption), stepQ, setQ3 ‹_ = (3 : Int)›, getF3 ‹_ = (3 : Int)›] <;> rfl)) : P := h
theorem fin2_dStart_ok {P : Prop} (h : P := by first | omega | (simp only [List.length_append, List.length_nil, List.length_cons, List.length_take, List.length_drop] at *; omega) | (have h_ := start_good (by assumption) ‹_[0]? = some _›; simp only [inF] at h_; omega)) : P := h
set_option maxHeartbeats 4000000 in
theorem dStart_ok (W : World) {m0 : Mem} (hm : mle (m0) (wm W)) {g0 : Nat} {d0 : DdiskDisk} (h0 : Ow (.ptr TdiskDisk) m0 [.pointer (some ⟨g0, 0, none⟩)] (g0, d0)) (d1 : Int) (h1 : inK .i64 d1) (d2 : Int) (h2 : inK .i64 d2) (e0 : okD d0) (e1 : wD d0 ≤ 1000000000000) : CallR Try.prog 17 [.pointer (some ⟨g0, 0, none⟩), .int .i64 d1, .int .i64 d2] W (m0) (fun v m' => v = .int .i64 ((dStart d0 d1 d2).2) ∧ Ow (.ptr TdiskDisk) m' [.pointer (some ⟨g0, 0, none⟩)] (g0, (dStart d0 d1 d2).1)) := by
  have h1' := h1; simp only [inK] at h1'
  have h2' := h2; simp only [inK] at h2'
  refine CallR.ofB (n := 93) hm Try.func17 rfl rfl rfl ?_
  refine VC.rs ?_
  refine VO.as ?_
  refine VO.k4 0 1 2 6 ?_
  refine VC.seq ?_
  refine VC.block ?_
  refine VC.rs ?_
  refine VO.mv ?_
  refine VO.call 1 rfl fnOk38 rfl rfl (fun W hW => dNone_ok W (hW.at (i := 1) rfl) h0) (fun v1 m1 hv1 => ?_)
  obtain ⟨rfl, w1_0⟩ := hv1
  refine VO.as ?_
  refine VO.k5 0 1 2 6 8 ?_
  refine VC.cond rfl (fun hc2 => ?_) (fun hc2 => ?_)
  · -- T
    refine VC.rs ?_
    refine VO.as ?_
    refine VO.keep [1, 0] [(1, m1), (0, mout (wm W) (m0))] (by kernel_rfl) ?_
    refine VO.k5 0 1 2 6 8 ?_
    refine VC.ret ?_
    refine outBR ?_
    refine outR ?_
    refine ⟨_, _, res_run (rs := [.tmp 6]) rfl (.tmp rfl .nil), fun W_ hI => out_of (l := [m1]) hI [1] rfl rfl (mle_refl _) (fun hS_ => ?_)⟩
    dsimp only [packV]
    have hm0_ : ((dStart d0 d1 d2).1 : DdiskDisk) = d0 := by first | rfl | (exact fin0_dStart_ok)
    refine ⟨?_, ?_⟩
    rotate_left
    · rw [hm0_]; exact (Ow.up w1_0 (hS_.1 _ (.head _)))
    all_goals (first | rfl | (exact fin0_dStart_ok))
  · -- F
    refine VC.rs ?_
    refine VO.mv ?_
    refine VO.y rfl (.nilp rfl) ?_
    refine VO.y rfl (.fa rfl tst58 rfl) ?_
    obtain ⟨q3_E, q3_A5, q3_c5, q3_A6, q3_c6, q3_A7, q3_c7, q3_A8, q3_c8, q3_A9, q3_c9, q3_n5, q3_n6, q3_n7, q3_n8, q3_n9, _, q3_S, q3_3, q3_4, q3_5, q3_6, q3_7, q3_8, q3_9⟩ := openP_diskDisk (x0 := d0.1) (x1 := d0.2.1) (x2 := d0.2.2.1) (x3 := d0.2.2.2.1) (x4 := d0.2.2.2.2.1) (x5 := d0.2.2.2.2.2.1.1) (x6 := d0.2.2.2.2.2.1.2.1) (x7 := d0.2.2.2.2.2.1.2.2.1) (x8 := d0.2.2.2.2.2.1.2.2.2) (x9 := d0.2.2.2.2.2.2) w1_0
    simp only [inK] at q3_3
    simp only [inK] at q3_4
    have q3_r5 := Rd.room (q3_5.rd (mle_refl _))
    have q3_r6 := Rd.room (q3_6.rd (mle_refl _))
    have q3_r7 := Rd.room (q3_7.rd (mle_refl _))
    have q3_r8 := Rd.room (q3_8.rd (mle_refl _))
    have q3_r9 := Rd.room (q3_9.rd (mle_refl _))
    refine VO.inv _ (fun _ h => h.parts (i := 1) rfl q3_S [109, 104, 105, 106, 107, 108]) ?_
    refine VO.y rfl (.ld1 109 rfl tk4 rfl (cellsAt_one rfl rfl)) ?_
    refine VO.y rfl (.not rfl) ?_
    refine VO.mv ?_
    refine VO.decBN (t := 17) rfl (fun hc10 => ?_) (fun hc10 => ?_)
    · -- FT
      refine VO.gN ?_
      refine VO.gN ?_
      refine VO.y rfl (.pT rfl rfl) ?_
      refine VO.mv ?_
      refine VO.gN ?_
      refine VO.gN ?_
      refine VO.y rfl (.pT rfl rfl) ?_
      refine VO.as ?_
      refine VO.gather (l := [mone g0 (.cells [Value.bool d0.1, Value.bool d0.2.1, Value.bool d0.2.2.1, Value.int .i64 (d0.2.2.2.1), Value.int .i64 (d0.2.2.2.2.1), Value.slice q3_A5 (d0.2.2.2.2.2.1.1.length) (q3_c5), Value.slice q3_A6 (d0.2.2.2.2.2.1.2.1.length) (q3_c6), Value.slice q3_A7 (d0.2.2.2.2.2.1.2.2.1.length) (q3_c7), Value.slice q3_A8 (d0.2.2.2.2.2.1.2.2.2.length) (q3_c8), Value.slice q3_A9 (d0.2.2.2.2.2.2.length) (q3_c9)].toArray q3_E (0, 0)), q3_n5, q3_n6, q3_n7, q3_n8, q3_n9]) 111 [109, 104, 105, 106, 107, 108] rfl (fun hg11 => ?_)
      have ho11 : Ow (.ptr TdiskDisk) (muns [mone g0 (.cells [Value.bool d0.1, Value.bool d0.2.1, Value.bool d0.2.2.1, Value.int .i64 (d0.2.2.2.1), Value.int .i64 (d0.2.2.2.2.1), Value.slice q3_A5 (d0.2.2.2.2.2.1.1.length) (q3_c5), Value.slice q3_A6 (d0.2.2.2.2.2.1.2.1.length) (q3_c6), Value.slice q3_A7 (d0.2.2.2.2.2.1.2.2.1.length) (q3_c7), Value.slice q3_A8 (d0.2.2.2.2.2.1.2.2.2.length) (q3_c8), Value.slice q3_A9 (d0.2.2.2.2.2.2.length) (q3_c9)].toArray q3_E (0, 0)), q3_n5, q3_n6, q3_n7, q3_n8, q3_n9]) [.pointer (some ⟨g0, 0, none⟩)] (g0, d0) := (show Ow (.ptr TdiskDisk) _ _ (_, d0) from (mkP_diskDisk d0.1 d0.2.1 d0.2.2.1 d0.2.2.2.1 d0.2.2.2.2.1 d0.2.2.2.2.2.1.1 d0.2.2.2.2.2.1.2.1 d0.2.2.2.2.2.1.2.2.1 d0.2.2.2.2.2.1.2.2.2 d0.2.2.2.2.2.2 hg11 (by simp only [inK]; (exact fin2_dStart_ok)) (by simp only [inK]; (exact fin2_dStart_ok)) (OwnL.ow (Ow.ownl q3_5 rfl mnil) rfl) (OwnL.ow (Ow.ownl q3_6 rfl mnil) rfl) (OwnL.ow (Ow.ownl q3_7 rfl mnil) rfl) (OwnL.ow (Ow.ownl q3_8 rfl mnil) rfl) q3_9))
      refine VO.keep [111, 0] [(111, muns [mone g0 (.cells [Value.bool d0.1, Value.bool d0.2.1, Value.bool d0.2.2.1, Value.int .i64 (d0.2.2.2.1), Value.int .i64 (d0.2.2.2.2.1), Value.slice q3_A5 (d0.2.2.2.2.2.1.1.length) (q3_c5), Value.slice q3_A6 (d0.2.2.2.2.2.1.2.1.length) (q3_c6), Value.slice q3_A7 (d0.2.2.2.2.2.1.2.2.1.length) (q3_c7), Value.slice q3_A8 (d0.2.2.2.2.2.1.2.2.2.length) (q3_c8), Value.slice q3_A9 (d0.2.2.2.2.2.2.length) (q3_c9)].toArray q3_E (0, 0)), q3_n5, q3_n6, q3_n7, q3_n8, q3_n9]), (0, mout (wm W) (m0))] (by kernel_rfl) ?_
      refine VO.k6 0 1 2 6 8 11 ?_
      refine VC.condT rfl ?_
      refine VC.rs ?_
      refine VO.as ?_
      refine VO.k6 0 1 2 6 8 11 ?_
      refine VC.ret ?_
      refine outBR ?_
      refine outR ?_
      refine ⟨_, _, res_run (rs := [.tmp 6]) rfl (.tmp rfl .nil), fun W_ hI => out_of (l := [muns [mone g0 (.cells [Value.bool d0.1, Value.bool d0.2.1, Value.bool d0.2.2.1, Value.int .i64 (d0.2.2.2.1), Value.int .i64 (d0.2.2.2.2.1), Value.slice q3_A5 (d0.2.2.2.2.2.1.1.length) (q3_c5), Value.slice q3_A6 (d0.2.2.2.2.2.1.2.1.length) (q3_c6), Value.slice q3_A7 (d0.2.2.2.2.2.1.2.2.1.length) (q3_c7), Value.slice q3_A8 (d0.2.2.2.2.2.1.2.2.2.length) (q3_c8), Value.slice q3_A9 (d0.2.2.2.2.2.2.length) (q3_c9)].toArray q3_E (0, 0)), q3_n5, q3_n6, q3_n7, q3_n8, q3_n9]]) hI [111] rfl rfl (mle_refl _) (fun hS_ => ?_)⟩
      dsimp only [packV]
      have hm0_ : ((dStart d0 d1 d2).1 : DdiskDisk) = d0 := by first | rfl | (exact fin0_dStart_ok)
      refine ⟨?_, ?_⟩
      rotate_left
      · rw [hm0_]; exact (Ow.up ho11 (hS_.1 _ (.head _)))
      all_goals (first | rfl | (exact fin0_dStart_ok))
    · -- FF
      refine VO.gy rfl ⟨_, rfl, rfl⟩ (.mv rfl) ?_
      refine VO.gy rfl ⟨_, rfl, rfl⟩ (.lss rfl rfl) ?_
      refine VO.y rfl (.pF rfl rfl) ?_
      refine VO.mv ?_
      refine VO.dec (t := 21) rfl (fun hc12 => ?_) (fun hc12 => ?_)
      · -- FFT
        refine VO.gN ?_
        refine VO.gN ?_
        refine VO.y rfl (.pT rfl rfl) ?_
        refine VO.as ?_
        refine VO.gather (l := [mone g0 (.cells [Value.bool d0.1, Value.bool d0.2.1, Value.bool d0.2.2.1, Value.int .i64 (d0.2.2.2.1), Value.int .i64 (d0.2.2.2.2.1), Value.slice q3_A5 (d0.2.2.2.2.2.1.1.length) (q3_c5), Value.slice q3_A6 (d0.2.2.2.2.2.1.2.1.length) (q3_c6), Value.slice q3_A7 (d0.2.2.2.2.2.1.2.2.1.length) (q3_c7), Value.slice q3_A8 (d0.2.2.2.2.2.1.2.2.2.length) (q3_c8), Value.slice q3_A9 (d0.2.2.2.2.2.2.length) (q3_c9)].toArray q3_E (0, 0)), q3_n5, q3_n6, q3_n7, q3_n8, q3_n9]) 113 [109, 104, 105, 106, 107, 108] rfl (fun hg13 => ?_)
        have ho13 : Ow (.ptr TdiskDisk) (muns [mone g0 (.cells [Value.bool d0.1, Value.bool d0.2.1, Value.bool d0.2.2.1, Value.int .i64 (d0.2.2.2.1), Value.int .i64 (d0.2.2.2.2.1), Value.slice q3_A5 (d0.2.2.2.2.2.1.1.length) (q3_c5), Value.slice q3_A6 (d0.2.2.2.2.2.1.2.1.length) (q3_c6), Value.slice q3_A7 (d0.2.2.2.2.2.1.2.2.1.length) (q3_c7), Value.slice q3_A8 (d0.2.2.2.2.2.1.2.2.2.length) (q3_c8), Value.slice q3_A9 (d0.2.2.2.2.2.2.length) (q3_c9)].toArray q3_E (0, 0)), q3_n5, q3_n6, q3_n7, q3_n8, q3_n9]) [.pointer (some ⟨g0, 0, none⟩)] (g0, d0) := (show Ow (.ptr TdiskDisk) _ _ (_, d0) from (mkP_diskDisk d0.1 d0.2.1 d0.2.2.1 d0.2.2.2.1 d0.2.2.2.2.1 d0.2.2.2.2.2.1.1 d0.2.2.2.2.2.1.2.1 d0.2.2.2.2.2.1.2.2.1 d0.2.2.2.2.2.1.2.2.2 d0.2.2.2.2.2.2 hg13 (by simp only [inK]; (exact fin2_dStart_ok)) (by simp only [inK]; (exact fin2_dStart_ok)) (OwnL.ow (Ow.ownl q3_5 rfl mnil) rfl) (OwnL.ow (Ow.ownl q3_6 rfl mnil) rfl) (OwnL.ow (Ow.ownl q3_7 rfl mnil) rfl) (OwnL.ow (Ow.ownl q3_8 rfl mnil) rfl) q3_9))
        refine VO.keep [113, 0] [(113, muns [mone g0 (.cells [Value.bool d0.1, Value.bool d0.2.1, Value.bool d0.2.2.1, Value.int .i64 (d0.2.2.2.1), Value.int .i64 (d0.2.2.2.2.1), Value.slice q3_A5 (d0.2.2.2.2.2.1.1.length) (q3_c5), Value.slice q3_A6 (d0.2.2.2.2.2.1.2.1.length) (q3_c6), Value.slice q3_A7 (d0.2.2.2.2.2.1.2.2.1.length) (q3_c7), Value.slice q3_A8 (d0.2.2.2.2.2.1.2.2.2.length) (q3_c8), Value.slice q3_A9 (d0.2.2.2.2.2.2.length) (q3_c9)].toArray q3_E (0, 0)), q3_n5, q3_n6, q3_n7, q3_n8, q3_n9]), (0, mout (wm W) (m0))] (by kernel_rfl) ?_
        refine VO.k6 0 1 2 6 8 11 ?_
        refine VC.condT rfl ?_
        refine VC.rs ?_
        refine VO.as ?_
        refine VO.k6 0 1 2 6 8 11 ?_
        refine VC.ret ?_
        refine outBR ?_
        refine outR ?_
        refine ⟨_, _, res_run (rs := [.tmp 6]) rfl (.tmp rfl .nil), fun W_ hI => out_of (l := [muns [mone g0 (.cells [Value.bool d0.1, Value.bool d0.2.1, Value.bool d0.2.2.1, Value.int .i64 (d0.2.2.2.1), Value.int .i64 (d0.2.2.2.2.1), Value.slice q3_A5 (d0.2.2.2.2.2.1.1.length) (q3_c5), Value.slice q3_A6 (d0.2.2.2.2.2.1.2.1.length) (q3_c6), Value.slice q3_A7 (d0.2.2.2.2.2.1.2.2.1.length) (q3_c7), Value.slice q3_A8 (d0.2.2.2.2.2.1.2.2.2.length) (q3_c8), Value.slice q3_A9 (d0.2.2.2.2.2.2.length) (q3_c9)].toArray q3_E (0, 0)), q3_n5, q3_n6, q3_n7, q3_n8, q3_n9]]) hI [113] rfl rfl (mle_refl _) (fun hS_ => ?_)⟩
        dsimp only [packV]
        have hm0_ : ((dStart d0 d1 d2).1 : DdiskDisk) = d0 := by first | rfl | (exact fin0_dStart_ok)
        refine ⟨?_, ?_⟩
        rotate_left
        · rw [hm0_]; exact (Ow.up ho13 (hS_.1 _ (.head _)))
        all_goals (first | rfl | (exact fin0_dStart_ok))
      · -- FFF
        refine VO.gy rfl ⟨_, rfl, rfl⟩ (.mv rfl) ?_
        refine VO.gy rfl ⟨_, rfl, rfl⟩ (.lss rfl rfl) ?_
        refine VO.y rfl (.pF rfl rfl) ?_
        refine VO.as ?_
        refine VO.gather (l := [mone g0 (.cells [Value.bool d0.1, Value.bool d0.2.1, Value.bool d0.2.2.1, Value.int .i64 (d0.2.2.2.1), Value.int .i64 (d0.2.2.2.2.1), Value.slice q3_A5 (d0.2.2.2.2.2.1.1.length) (q3_c5), Value.slice q3_A6 (d0.2.2.2.2.2.1.2.1.length) (q3_c6), Value.slice q3_A7 (d0.2.2.2.2.2.1.2.2.1.length) (q3_c7), Value.slice q3_A8 (d0.2.2.2.2.2.1.2.2.2.length) (q3_c8), Value.slice q3_A9 (d0.2.2.2.2.2.2.length) (q3_c9)].toArray q3_E (0, 0)), q3_n5, q3_n6, q3_n7, q3_n8, q3_n9]) 114 [109, 104, 105, 106, 107, 108] rfl (fun hg14 => ?_)
        have ho14 : Ow (.ptr TdiskDisk) (muns [mone g0 (.cells [Value.bool d0.1, Value.bool d0.2.1, Value.bool d0.2.2.1, Value.int .i64 (d0.2.2.2.1), Value.int .i64 (d0.2.2.2.2.1), Value.slice q3_A5 (d0.2.2.2.2.2.1.1.length) (q3_c5), Value.slice q3_A6 (d0.2.2.2.2.2.1.2.1.length) (q3_c6), Value.slice q3_A7 (d0.2.2.2.2.2.1.2.2.1.length) (q3_c7), Value.slice q3_A8 (d0.2.2.2.2.2.1.2.2.2.length) (q3_c8), Value.slice q3_A9 (d0.2.2.2.2.2.2.length) (q3_c9)].toArray q3_E (0, 0)), q3_n5, q3_n6, q3_n7, q3_n8, q3_n9]) [.pointer (some ⟨g0, 0, none⟩)] (g0, d0) := (show Ow (.ptr TdiskDisk) _ _ (_, d0) from (mkP_diskDisk d0.1 d0.2.1 d0.2.2.1 d0.2.2.2.1 d0.2.2.2.2.1 d0.2.2.2.2.2.1.1 d0.2.2.2.2.2.1.2.1 d0.2.2.2.2.2.1.2.2.1 d0.2.2.2.2.2.1.2.2.2 d0.2.2.2.2.2.2 hg14 (by simp only [inK]; (exact fin2_dStart_ok)) (by simp only [inK]; (exact fin2_dStart_ok)) (OwnL.ow (Ow.ownl q3_5 rfl mnil) rfl) (OwnL.ow (Ow.ownl q3_6 rfl mnil) rfl) (OwnL.ow (Ow.ownl q3_7 rfl mnil) rfl) (OwnL.ow (Ow.ownl q3_8 rfl mnil) rfl) q3_9))
        refine VO.keep [114, 0] [(114, muns [mone g0 (.cells [Value.bool d0.1, Value.bool d0.2.1, Value.bool d0.2.2.1, Value.int .i64 (d0.2.2.2.1), Value.int .i64 (d0.2.2.2.2.1), Value.slice q3_A5 (d0.2.2.2.2.2.1.1.length) (q3_c5), Value.slice q3_A6 (d0.2.2.2.2.2.1.2.1.length) (q3_c6), Value.slice q3_A7 (d0.2.2.2.2.2.1.2.2.1.length) (q3_c7), Value.slice q3_A8 (d0.2.2.2.2.2.1.2.2.2.length) (q3_c8), Value.slice q3_A9 (d0.2.2.2.2.2.2.length) (q3_c9)].toArray q3_E (0, 0)), q3_n5, q3_n6, q3_n7, q3_n8, q3_n9]), (0, mout (wm W) (m0))] (by kernel_rfl) ?_
        refine VO.k6 0 1 2 6 8 11 ?_
        refine VC.cond rfl (fun hc15 => ?_) (fun hc15 => ?_)
        · -- FFFT
          refine VC.rs ?_
          refine VO.as ?_
          refine VO.k6 0 1 2 6 8 11 ?_
          refine VC.ret ?_
          refine outBR ?_
          refine outR ?_
          refine ⟨_, _, res_run (rs := [.tmp 6]) rfl (.tmp rfl .nil), fun W_ hI => out_of (l := [muns [mone g0 (.cells [Value.bool d0.1, Value.bool d0.2.1, Value.bool d0.2.2.1, Value.int .i64 (d0.2.2.2.1), Value.int .i64 (d0.2.2.2.2.1), Value.slice q3_A5 (d0.2.2.2.2.2.1.1.length) (q3_c5), Value.slice q3_A6 (d0.2.2.2.2.2.1.2.1.length) (q3_c6), Value.slice q3_A7 (d0.2.2.2.2.2.1.2.2.1.length) (q3_c7), Value.slice q3_A8 (d0.2.2.2.2.2.1.2.2.2.length) (q3_c8), Value.slice q3_A9 (d0.2.2.2.2.2.2.length) (q3_c9)].toArray q3_E (0, 0)), q3_n5, q3_n6, q3_n7, q3_n8, q3_n9]]) hI [114] rfl rfl (mle_refl _) (fun hS_ => ?_)⟩
          dsimp only [packV]
          have hm0_ : ((dStart d0 d1 d2).1 : DdiskDisk) = d0 := by first | rfl | (exact fin0_dStart_ok)
          refine ⟨?_, ?_⟩
          rotate_left
          · rw [hm0_]; exact (Ow.up ho14 (hS_.1 _ (.head _)))
          all_goals (first | rfl | (exact fin0_dStart_ok))
        · -- FFFF
          refine VC.skip ?_
          refine outBN ?_
          refine outN ?_
          refine VC.rs ?_
          refine VO.mv ?_
          refine VO.mv ?_
          refine VO.mv ?_
          refine VO.y rfl (.nilp rfl) ?_
          refine VO.y rfl (.fa rfl tst58 rfl) ?_
          obtain ⟨q16_E, q16_A5, q16_c5, q16_A6, q16_c6, q16_A7, q16_c7, q16_A8, q16_c8, q16_A9, q16_c9, q16_n5, q16_n6, q16_n7, q16_n8, q16_n9, _, q16_S, q16_3, q16_4, q16_5, q16_6, q16_7, q16_8, q16_9⟩ := openP_diskDisk (x0 := d0.1) (x1 := d0.2.1) (x2 := d0.2.2.1) (x3 := d0.2.2.2.1) (x4 := d0.2.2.2.2.1) (x5 := d0.2.2.2.2.2.1.1) (x6 := d0.2.2.2.2.2.1.2.1) (x7 := d0.2.2.2.2.2.1.2.2.1) (x8 := d0.2.2.2.2.2.1.2.2.2) (x9 := d0.2.2.2.2.2.2) ho14
          simp only [inK] at q16_3
          simp only [inK] at q16_4
          have q16_r5 := Rd.room (q16_5.rd (mle_refl _))
          have q16_r6 := Rd.room (q16_6.rd (mle_refl _))
          have q16_r7 := Rd.room (q16_7.rd (mle_refl _))
          have q16_r8 := Rd.room (q16_8.rd (mle_refl _))
          have q16_r9 := Rd.room (q16_9.rd (mle_refl _))
          refine VO.inv _ (fun _ h => h.parts (i := 114) rfl q16_S [122, 117, 118, 119, 120, 121]) ?_
          refine VO.y rfl (.ld1 122 rfl tk56 rfl (cellsAt_one rfl rfl)) ?_
          refine VO.y rfl (.lenS rfl tsl56) ?_
          refine VO.y rfl (.minM rfl rfl) ?_
          refine VO.gather (l := [mone g0 (.cells [Value.bool d0.1, Value.bool d0.2.1, Value.bool d0.2.2.1, Value.int .i64 (d0.2.2.2.1), Value.int .i64 (d0.2.2.2.2.1), Value.slice q16_A5 (d0.2.2.2.2.2.1.1.length) (q16_c5), Value.slice q16_A6 (d0.2.2.2.2.2.1.2.1.length) (q16_c6), Value.slice q16_A7 (d0.2.2.2.2.2.1.2.2.1.length) (q16_c7), Value.slice q16_A8 (d0.2.2.2.2.2.1.2.2.2.length) (q16_c8), Value.slice q16_A9 (d0.2.2.2.2.2.2.length) (q16_c9)].toArray q16_E (0, 0)), q16_n5, q16_n6, q16_n7, q16_n8, q16_n9]) 124 [122, 117, 118, 119, 120, 121] rfl (fun hg24 => ?_)
          have ho24 : Ow (.ptr TdiskDisk) (muns [mone g0 (.cells [Value.bool d0.1, Value.bool d0.2.1, Value.bool d0.2.2.1, Value.int .i64 (d0.2.2.2.1), Value.int .i64 (d0.2.2.2.2.1), Value.slice q16_A5 (d0.2.2.2.2.2.1.1.length) (q16_c5), Value.slice q16_A6 (d0.2.2.2.2.2.1.2.1.length) (q16_c6), Value.slice q16_A7 (d0.2.2.2.2.2.1.2.2.1.length) (q16_c7), Value.slice q16_A8 (d0.2.2.2.2.2.1.2.2.2.length) (q16_c8), Value.slice q16_A9 (d0.2.2.2.2.2.2.length) (q16_c9)].toArray q16_E (0, 0)), q16_n5, q16_n6, q16_n7, q16_n8, q16_n9]) [.pointer (some ⟨g0, 0, none⟩)] (g0, d0) := (show Ow (.ptr TdiskDisk) _ _ (_, d0) from (mkP_diskDisk d0.1 d0.2.1 d0.2.2.1 d0.2.2.2.1 d0.2.2.2.2.1 d0.2.2.2.2.2.1.1 d0.2.2.2.2.2.1.2.1 d0.2.2.2.2.2.1.2.2.1 d0.2.2.2.2.2.1.2.2.2 d0.2.2.2.2.2.2 hg24 (by simp only [inK]; (exact fin2_dStart_ok)) (by simp only [inK]; (exact fin2_dStart_ok)) (OwnL.ow (Ow.ownl q16_5 rfl mnil) rfl) (OwnL.ow (Ow.ownl q16_6 rfl mnil) rfl) (OwnL.ow (Ow.ownl q16_7 rfl mnil) rfl) (OwnL.ow (Ow.ownl q16_8 rfl mnil) rfl) q16_9))
          refine VO.call 124 rfl fnOk37 rfl rfl (fun W hW => dSettle_ok W (hW.at (i := 124) rfl) ho24 (min d1 ((d0.2.2.2.2.2.2.length : Nat) : Int)) (by simp only [inK]; (exact fin2_dStart_ok)) (by assumption) (by exact fin2_dStart_ok) (by exact fin2_dStart_ok)) (fun v23 m23 hv23 => ?_)
          obtain ⟨rfl, w23_0⟩ := hv23
          have hfa25 := (settle_ok (min d1 ((d0.2.2.2.2.2.2.length : Nat) : Int)).toNat (show okD d0 by assumption))
          have hfa26 := (settle_w d0 (min d1 ((d0.2.2.2.2.2.2.length : Nat) : Int)).toNat)
          refine VO.k6 0 1 2 6 8 11 ?_
          refine VC.seq ?_
          refine VC.rs ?_
          refine VO.mv ?_
          refine VO.y rfl (.nilp rfl) ?_
          refine VO.y rfl (.fa rfl tst58 rfl) ?_
          obtain ⟨q27_E, q27_A5, q27_c5, q27_A6, q27_c6, q27_A7, q27_c7, q27_A8, q27_c8, q27_A9, q27_c9, q27_n5, q27_n6, q27_n7, q27_n8, q27_n9, _, q27_S, q27_3, q27_4, q27_5, q27_6, q27_7, q27_8, q27_9⟩ := openP_diskDisk (x0 := (settleD d0 (min d1 ((d0.2.2.2.2.2.2.length : Nat) : Int)).toNat).1) (x1 := (settleD d0 (min d1 ((d0.2.2.2.2.2.2.length : Nat) : Int)).toNat).2.1) (x2 := (settleD d0 (min d1 ((d0.2.2.2.2.2.2.length : Nat) : Int)).toNat).2.2.1) (x3 := (settleD d0 (min d1 ((d0.2.2.2.2.2.2.length : Nat) : Int)).toNat).2.2.2.1) (x4 := (settleD d0 (min d1 ((d0.2.2.2.2.2.2.length : Nat) : Int)).toNat).2.2.2.2.1) (x5 := ((settleD d0 (min d1 ((d0.2.2.2.2.2.2.length : Nat) : Int)).toNat).2.2.2.2.2.1).1) (x6 := ((settleD d0 (min d1 ((d0.2.2.2.2.2.2.length : Nat) : Int)).toNat).2.2.2.2.2.1).2.1) (x7 := ((settleD d0 (min d1 ((d0.2.2.2.2.2.2.length : Nat) : Int)).toNat).2.2.2.2.2.1).2.2.1) (x8 := ((settleD d0 (min d1 ((d0.2.2.2.2.2.2.length : Nat) : Int)).toNat).2.2.2.2.2.1).2.2.2) (x9 := (settleD d0 (min d1 ((d0.2.2.2.2.2.2.length : Nat) : Int)).toNat).2.2.2.2.2.2) w23_0
          simp only [inK] at q27_3
          simp only [inK] at q27_4
          have q27_r5 := Rd.room (q27_5.rd (mle_refl _))
          have q27_r6 := Rd.room (q27_6.rd (mle_refl _))
          have q27_r7 := Rd.room (q27_7.rd (mle_refl _))
          have q27_r8 := Rd.room (q27_8.rd (mle_refl _))
          have q27_r9 := Rd.room (q27_9.rd (mle_refl _))
          refine VO.inv _ (fun _ h => h.parts (i := 124) rfl q27_S [133, 128, 129, 130, 131, 132]) ?_
          refine VO.y rfl (.ld1 133 rfl tk56 rfl (cellsAt_one rfl rfl)) ?_
          refine VO.y rfl (.lenS rfl tsl56) ?_
          refine VO.y rfl (.gtr rfl rfl) ?_
          refine VO.mv ?_
          refine VO.dec (t := 40) rfl (fun hc34 => ?_) (fun hc34 => ?_)
          · -- FFFFT
            refine VO.gy rfl ⟨_, rfl, rfl⟩ (.mv rfl) ?_
            refine VO.gy rfl ⟨_, rfl, rfl⟩ (.nilp rfl) ?_
            refine VO.gy rfl ⟨_, rfl, rfl⟩ (.fa rfl tst58 rfl) ?_
            refine VO.gy rfl ⟨_, rfl, rfl⟩ (.ld1 133 rfl tk56 rfl (cellsAt_one rfl rfl)) ?_
            obtain ⟨x35, hx35⟩ : ∃ z_, ((settleD d0 (min d1 ((d0.2.2.2.2.2.2.length : Nat) : Int)).toNat).2.2.2.2.2.2)[0]? = some z_ := ⟨_, List.getElem?_eq_getElem (by exact fin2_dStart_ok)⟩
            obtain ⟨gg35, oo35, ec35, ea35, hce35, hre35⟩ := (Ow.rd q27_9 (mle_refl _)).elem hx35
            cases ea35
            obtain ⟨q35_A2, q35_c2, rfl, q35_0, q35_1, q35_2, q35_3⟩ := open_diskstep (x0 := x35.1) (x1 := x35.2.1) (x2 := x35.2.2.1) (x3 := x35.2.2.2) hre35
            simp only [inK] at q35_0
            simp only [inK] at q35_1
            have q35_r2 := Rd.room q35_2
            simp only [inK] at q35_3
            refine VO.gy rfl ⟨_, rfl, rfl⟩ (.ixI 0 rfl rfl tsl56 rfl (by exact fin2_dStart_ok)) ?_
            refine VO.gy rfl ⟨_, rfl, rfl⟩ (.fa rfl tst64 rfl) ?_
            refine VO.gy rfl ⟨_, rfl, rfl⟩ (.ld1 132 rfl tk3 rfl (hce35.at1 (j := 0) rfl)) ?_
            refine VO.gy rfl ⟨_, rfl, rfl⟩ (.eql rfl rfl) ?_
            refine VO.y rfl (.pT rfl rfl) ?_
            refine VO.gather (l := [mone g0 (.cells [Value.bool ((settleD d0 (min d1 ((d0.2.2.2.2.2.2.length : Nat) : Int)).toNat).1), Value.bool ((settleD d0 (min d1 ((d0.2.2.2.2.2.2.length : Nat) : Int)).toNat).2.1), Value.bool ((settleD d0 (min d1 ((d0.2.2.2.2.2.2.length : Nat) : Int)).toNat).2.2.1), Value.int .i64 ((settleD d0 (min d1 ((d0.2.2.2.2.2.2.length : Nat) : Int)).toNat).2.2.2.1), Value.int .i64 ((settleD d0 (min d1 ((d0.2.2.2.2.2.2.length : Nat) : Int)).toNat).2.2.2.2.1), Value.slice q27_A5 ((((settleD d0 (min d1 ((d0.2.2.2.2.2.2.length : Nat) : Int)).toNat).2.2.2.2.2.1).1).length) (q27_c5), Value.slice q27_A6 ((((settleD d0 (min d1 ((d0.2.2.2.2.2.2.length : Nat) : Int)).toNat).2.2.2.2.2.1).2.1).length) (q27_c6), Value.slice q27_A7 ((((settleD d0 (min d1 ((d0.2.2.2.2.2.2.length : Nat) : Int)).toNat).2.2.2.2.2.1).2.2.1).length) (q27_c7), Value.slice q27_A8 ((((settleD d0 (min d1 ((d0.2.2.2.2.2.2.length : Nat) : Int)).toNat).2.2.2.2.2.1).2.2.2).length) (q27_c8), Value.slice (some ⟨gg35, oo35, none⟩) (((settleD d0 (min d1 ((d0.2.2.2.2.2.2.length : Nat) : Int)).toNat).2.2.2.2.2.2).length) (q27_c9)].toArray q27_E (0, 0)), q27_n5, q27_n6, q27_n7, q27_n8, q27_n9]) 136 [133, 128, 129, 130, 131, 132] rfl (fun hg36 => ?_)
            have ho36 : Ow (.ptr TdiskDisk) (muns [mone g0 (.cells [Value.bool ((settleD d0 (min d1 ((d0.2.2.2.2.2.2.length : Nat) : Int)).toNat).1), Value.bool ((settleD d0 (min d1 ((d0.2.2.2.2.2.2.length : Nat) : Int)).toNat).2.1), Value.bool ((settleD d0 (min d1 ((d0.2.2.2.2.2.2.length : Nat) : Int)).toNat).2.2.1), Value.int .i64 ((settleD d0 (min d1 ((d0.2.2.2.2.2.2.length : Nat) : Int)).toNat).2.2.2.1), Value.int .i64 ((settleD d0 (min d1 ((d0.2.2.2.2.2.2.length : Nat) : Int)).toNat).2.2.2.2.1), Value.slice q27_A5 ((((settleD d0 (min d1 ((d0.2.2.2.2.2.2.length : Nat) : Int)).toNat).2.2.2.2.2.1).1).length) (q27_c5), Value.slice q27_A6 ((((settleD d0 (min d1 ((d0.2.2.2.2.2.2.length : Nat) : Int)).toNat).2.2.2.2.2.1).2.1).length) (q27_c6), Value.slice q27_A7 ((((settleD d0 (min d1 ((d0.2.2.2.2.2.2.length : Nat) : Int)).toNat).2.2.2.2.2.1).2.2.1).length) (q27_c7), Value.slice q27_A8 ((((settleD d0 (min d1 ((d0.2.2.2.2.2.2.length : Nat) : Int)).toNat).2.2.2.2.2.1).2.2.2).length) (q27_c8), Value.slice (some ⟨gg35, oo35, none⟩) (((settleD d0 (min d1 ((d0.2.2.2.2.2.2.length : Nat) : Int)).toNat).2.2.2.2.2.2).length) (q27_c9)].toArray q27_E (0, 0)), q27_n5, q27_n6, q27_n7, q27_n8, q27_n9]) [.pointer (some ⟨g0, 0, none⟩)] (g0, (settleD d0 (min d1 ((d0.2.2.2.2.2.2.length : Nat) : Int)).toNat)) := (show Ow (.ptr TdiskDisk) _ _ (_, (settleD d0 (min d1 ((d0.2.2.2.2.2.2.length : Nat) : Int)).toNat)) from (mkP_diskDisk ((settleD d0 (min d1 ((d0.2.2.2.2.2.2.length : Nat) : Int)).toNat).1) ((settleD d0 (min d1 ((d0.2.2.2.2.2.2.length : Nat) : Int)).toNat).2.1) ((settleD d0 (min d1 ((d0.2.2.2.2.2.2.length : Nat) : Int)).toNat).2.2.1) ((settleD d0 (min d1 ((d0.2.2.2.2.2.2.length : Nat) : Int)).toNat).2.2.2.1) ((settleD d0 (min d1 ((d0.2.2.2.2.2.2.length : Nat) : Int)).toNat).2.2.2.2.1) (((settleD d0 (min d1 ((d0.2.2.2.2.2.2.length : Nat) : Int)).toNat).2.2.2.2.2.1).1) (((settleD d0 (min d1 ((d0.2.2.2.2.2.2.length : Nat) : Int)).toNat).2.2.2.2.2.1).2.1) (((settleD d0 (min d1 ((d0.2.2.2.2.2.2.length : Nat) : Int)).toNat).2.2.2.2.2.1).2.2.1) (((settleD d0 (min d1 ((d0.2.2.2.2.2.2.length : Nat) : Int)).toNat).2.2.2.2.2.1).2.2.2) ((settleD d0 (min d1 ((d0.2.2.2.2.2.2.length : Nat) : Int)).toNat).2.2.2.2.2.2) hg36 (by simp only [inK]; (exact fin2_dStart_ok)) (by simp only [inK]; (exact fin2_dStart_ok)) (OwnL.ow (Ow.ownl q27_5 rfl mnil) rfl) (OwnL.ow (Ow.ownl q27_6 rfl mnil) rfl) (OwnL.ow (Ow.ownl q27_7 rfl mnil) rfl) (OwnL.ow (Ow.ownl q27_8 rfl mnil) rfl) q27_9))
            refine VO.k7 0 1 2 6 8 11 49 ?_
            refine VC.cond rfl (fun hc37 => ?_) (fun hc37 => ?_)
            · -- FFFFTT
              refine VC.rs ?_
              refine VO.mv ?_
              refine VO.y rfl (.nilp rfl) ?_
              refine VO.y rfl (.fa rfl tst58 rfl) ?_
              obtain ⟨q38_E, q38_A5, q38_c5, q38_A6, q38_c6, q38_A7, q38_c7, q38_A8, q38_c8, q38_A9, q38_c9, q38_n5, q38_n6, q38_n7, q38_n8, q38_n9, _, q38_S, q38_3, q38_4, q38_5, q38_6, q38_7, q38_8, q38_9⟩ := openP_diskDisk (x0 := (settleD d0 (min d1 ((d0.2.2.2.2.2.2.length : Nat) : Int)).toNat).1) (x1 := (settleD d0 (min d1 ((d0.2.2.2.2.2.2.length : Nat) : Int)).toNat).2.1) (x2 := (settleD d0 (min d1 ((d0.2.2.2.2.2.2.length : Nat) : Int)).toNat).2.2.1) (x3 := (settleD d0 (min d1 ((d0.2.2.2.2.2.2.length : Nat) : Int)).toNat).2.2.2.1) (x4 := (settleD d0 (min d1 ((d0.2.2.2.2.2.2.length : Nat) : Int)).toNat).2.2.2.2.1) (x5 := ((settleD d0 (min d1 ((d0.2.2.2.2.2.2.length : Nat) : Int)).toNat).2.2.2.2.2.1).1) (x6 := ((settleD d0 (min d1 ((d0.2.2.2.2.2.2.length : Nat) : Int)).toNat).2.2.2.2.2.1).2.1) (x7 := ((settleD d0 (min d1 ((d0.2.2.2.2.2.2.length : Nat) : Int)).toNat).2.2.2.2.2.1).2.2.1) (x8 := ((settleD d0 (min d1 ((d0.2.2.2.2.2.2.length : Nat) : Int)).toNat).2.2.2.2.2.1).2.2.2) (x9 := (settleD d0 (min d1 ((d0.2.2.2.2.2.2.length : Nat) : Int)).toNat).2.2.2.2.2.2) ho36
              simp only [inK] at q38_3
              simp only [inK] at q38_4
              have q38_r5 := Rd.room (q38_5.rd (mle_refl _))
              have q38_r6 := Rd.room (q38_6.rd (mle_refl _))
              have q38_r7 := Rd.room (q38_7.rd (mle_refl _))
              have q38_r8 := Rd.room (q38_8.rd (mle_refl _))
              have q38_r9 := Rd.room (q38_9.rd (mle_refl _))
              refine VO.inv _ (fun _ h => h.parts (i := 136) rfl q38_S [144, 139, 140, 141, 142, 143]) ?_
              refine VO.y rfl (.ld1 144 rfl tk56 rfl (cellsAt_one rfl rfl)) ?_
              obtain ⟨x45, hx45⟩ : ∃ z_, ((settleD d0 (min d1 ((d0.2.2.2.2.2.2.length : Nat) : Int)).toNat).2.2.2.2.2.2)[0]? = some z_ := ⟨_, List.getElem?_eq_getElem (by exact fin2_dStart_ok)⟩
              obtain ⟨gg45, oo45, ec45, ea45, hce45, hre45⟩ := (Ow.rd q38_9 (mle_refl _)).elem hx45
              cases ea45
              obtain ⟨q45_A2, q45_c2, rfl, q45_0, q45_1, q45_2, q45_3⟩ := open_diskstep (x0 := x45.1) (x1 := x45.2.1) (x2 := x45.2.2.1) (x3 := x45.2.2.2) hre45
              simp only [inK] at q45_0
              simp only [inK] at q45_1
              have q45_r2 := Rd.room q45_2
              simp only [inK] at q45_3
              refine VO.y rfl (.ixI 0 rfl rfl tsl56 rfl (by exact fin2_dStart_ok)) ?_
              refine VO.y rfl (.ldA 143 rfl tk64 rfl hce45) ?_
              refine VO.alloc 147 rfl tz64 (fun g46 => ?_)
              refine VO.store (k := 4) (c' := [Value.int .i64 (x45.1), Value.int .i64 (x45.2.1), Value.slice q45_A2 (x45.2.2.1.length) (q45_c2), Value.int .i64 (x45.2.2.2)]) 147 rfl rfl (.inl tk64) rfl rfl rfl rfl rfl ?_
              refine VO.keep [147, 144, 139, 140, 141, 142, 143, 0] [(147, mone g46 (.cells [Value.int .i64 (x45.1), Value.int .i64 (x45.2.1), Value.slice q45_A2 (x45.2.2.1.length) (q45_c2), Value.int .i64 (x45.2.2.2)].toArray 64 (0, 0))), (144, mone g0 (.cells [Value.bool ((settleD d0 (min d1 ((d0.2.2.2.2.2.2.length : Nat) : Int)).toNat).1), Value.bool ((settleD d0 (min d1 ((d0.2.2.2.2.2.2.length : Nat) : Int)).toNat).2.1), Value.bool ((settleD d0 (min d1 ((d0.2.2.2.2.2.2.length : Nat) : Int)).toNat).2.2.1), Value.int .i64 ((settleD d0 (min d1 ((d0.2.2.2.2.2.2.length : Nat) : Int)).toNat).2.2.2.1), Value.int .i64 ((settleD d0 (min d1 ((d0.2.2.2.2.2.2.length : Nat) : Int)).toNat).2.2.2.2.1), Value.slice q38_A5 ((((settleD d0 (min d1 ((d0.2.2.2.2.2.2.length : Nat) : Int)).toNat).2.2.2.2.2.1).1).length) (q38_c5), Value.slice q38_A6 ((((settleD d0 (min d1 ((d0.2.2.2.2.2.2.length : Nat) : Int)).toNat).2.2.2.2.2.1).2.1).length) (q38_c6), Value.slice q38_A7 ((((settleD d0 (min d1 ((d0.2.2.2.2.2.2.length : Nat) : Int)).toNat).2.2.2.2.2.1).2.2.1).length) (q38_c7), Value.slice q38_A8 ((((settleD d0 (min d1 ((d0.2.2.2.2.2.2.length : Nat) : Int)).toNat).2.2.2.2.2.1).2.2.2).length) (q38_c8), Value.slice (some ⟨gg45, oo45, none⟩) (((settleD d0 (min d1 ((d0.2.2.2.2.2.2.length : Nat) : Int)).toNat).2.2.2.2.2.2).length) (q38_c9)].toArray q38_E (0, 0))), (139, q38_n5), (140, q38_n6), (141, q38_n7), (142, q38_n8), (143, q38_n9), (0, mout (wm W) (m0))] (by kernel_rfl) ?_
              refine VO.k8 0 1 2 6 7 8 11 49 ?_
              refine VC.rs ?_
              have hxe : x45 = x35 := Option.some.inj (hx45.symm.trans hx35)
              subst hxe
              refine VO.y rfl (.fa rfl tst64 rfl) ?_
              refine VO.y rfl (.ld1 147 rfl tk27 rfl (cellsAt_one rfl rfl)) ?_
              refine VO.mv ?_
              refine VO.y rfl (.fa rfl tst64 rfl) ?_
              refine VO.y rfl (.ld1 147 rfl tk27 rfl (cellsAt_one rfl rfl)) ?_
              refine VO.y rfl (.lenS rfl tsl27) ?_
              refine VO.y rfl (.sub rfl rfl rfl ⟨by exact fin2_dStart_ok, by exact fin2_dStart_ok⟩) ?_
              refine VO.y rfl (.minM rfl rfl) ?_
              have hs48 := q45_2.pre (j := ((min d2 (((x45.2.2.1.length : Nat) : Int) - 1)).toNat)) (by exact fin2_dStart_ok)
              refine VO.y rfl (.slHI ((min d2 (((x45.2.2.1.length : Nat) : Int) - 1)).toNat) rfl rfl tsl27 (by exact fin2_dStart_ok) (by exact fin2_dStart_ok)) ?_
              refine VO.y rfl (.fa rfl tst64 rfl) ?_
              refine VO.store (k := 1) (c' := [Value.int .i64 (x45.1), Value.int .i64 (x45.2.1), Value.slice q45_A2 ((min d2 (((x45.2.2.1.length : Nat) : Int) - 1)).toNat) (q45_c2), Value.int .i64 (x45.2.2.2)]) 147 rfl rfl (.inr ⟨tk27, rfl⟩) rfl rfl rfl rfl rfl ?_
              refine VO.k8 0 1 2 6 7 8 11 49 ?_
              refine VC.regD _ 14 [(0, true), (1, true), (2, true), (3, true), (4, true), (5, true), (6, true), (7, true), (8, true), (9, true), (10, true), (12, true), (13, true), (11, false)] follows (by kernel_rfl) (fun _ h => h.sub [147, 144, 143, 0]) ?_
              refine VD.y rfl rfl (.inl rfl) (.mv rfl) ?_
              refine VD.y rfl rfl (.inl rfl) (.fa rfl tst64 rfl) ?_
              refine VD.y rfl rfl (.inl rfl) (.ld1 147 rfl tk3 rfl (cellsAt_one rfl rfl)) ?_
              refine VD.y rfl rfl (.inl rfl) (.mv rfl) ?_
              refine VD.y rfl rfl (.inl rfl) (.fa rfl tst64 rfl) ?_
              refine VD.y rfl rfl (.inl rfl) (.ld1 147 rfl tk3 rfl (cellsAt_one rfl rfl)) ?_
              refine VD.y rfl rfl (.inl rfl) (.nilp rfl) ?_
              refine VD.y rfl rfl (.inl rfl) (.fa rfl tst58 rfl) ?_
              rcases (show x45.2.1 = (0 : Int) ∨ x45.2.1 = (1 : Int) ∨ x45.2.1 = (2 : Int) ∨ x45.2.1 = (3 : Int) from by exact fin2_dStart_ok) with hi49 | hi49 | hi49 | hi49
              · -- FFFFTT0
                refine VD.y rfl rfl (.inl rfl) (.ixa (i := 0) (o := 5) rfl rfl tar28 hi49 rfl rfl) ?_
                refine VD.y rfl rfl (.inl rfl) (.ld1 144 rfl tk27 rfl (cellsAt_one rfl rfl)) ?_
                refine VD.y rfl rfl (.inl rfl) (.ldA 147 rfl tk64 rfl (cellsAt_one rfl rfl)) ?_
                refine VD.y rfl rfl (.inl rfl) (.nilp rfl) ?_
                refine VD.y rfl rfl (.inl rfl) (.fa rfl tst58 rfl) ?_
                refine VD.call 139 rfl rfl (.inl rfl) fnOk40 rfl rfl (fun _ _ h => h.sub [147, 144, 143, 0]) (fun W hW => dDone_ok W (hW.at (i := 139) rfl) (OwnL.ow (Ow.ownl q38_5 rfl mnil) rfl) (mk_diskstep (m := mout (wm W) (q38_n5)) x45.1 x45.2.1 ((x45.2.2.1).take ((min d2 (((x45.2.2.1.length : Nat) : Int) - 1)).toNat)) x45.2.2.2 (by simp only [inK]; (exact fin2_dStart_ok)) (by simp only [inK]; (exact fin2_dStart_ok)) (Rd.mono hs48 (hW.out (i := 139) (j := 143) rfl rfl)) (by simp only [inK]; (exact fin2_dStart_ok))) (by intro h_; omega) (by (have h_ := (start_good (by assumption) ‹_[0]? = some _›).2.2; first | (rw [getF0 ‹_ = (0 : Int)›] at h_; simp only [List.length_take]; omega) | (rw [getF1 ‹_ = (1 : Int)›] at h_; simp only [List.length_take]; omega) | (rw [getF2 ‹_ = (2 : Int)›] at h_; simp only [List.length_take]; omega) | (rw [getF3 ‹_ = (3 : Int)›] at h_; simp only [List.length_take]; omega)))) (fun v50 m50 hv50 => ?_)
                try dsimp only at hv50
                obtain ⟨s50_0, rfl, f50_0⟩ := hv50
                obtain ⟨A50_0, c50_0, eq50_0, l50_0, k50_0⟩ := f50_0.slice
                subst eq50_0
                simp only [maxLen] at k50_0
                refine VD.nil rfl ?_ rfl
                refine VO.y rfl (.ixa (i := 0) (o := 5) rfl rfl tar28 hi49 rfl rfl) ?_
                refine VO.store (k := 1) (c' := [Value.bool ((settleD d0 (min d1 ((d0.2.2.2.2.2.2.length : Nat) : Int)).toNat).1), Value.bool ((settleD d0 (min d1 ((d0.2.2.2.2.2.2.length : Nat) : Int)).toNat).2.1), Value.bool ((settleD d0 (min d1 ((d0.2.2.2.2.2.2.length : Nat) : Int)).toNat).2.2.1), Value.int .i64 ((settleD d0 (min d1 ((d0.2.2.2.2.2.2.length : Nat) : Int)).toNat).2.2.2.1), Value.int .i64 ((settleD d0 (min d1 ((d0.2.2.2.2.2.2.length : Nat) : Int)).toNat).2.2.2.2.1), Value.slice A50_0 ((doneB (((settleD d0 (min d1 ((d0.2.2.2.2.2.2.length : Nat) : Int)).toNat).2.2.2.2.2.1).1) (x45.1, x45.2.1, (x45.2.2.1).take ((min d2 (((x45.2.2.1.length : Nat) : Int) - 1)).toNat), x45.2.2.2)).length) (c50_0), Value.slice q38_A6 ((((settleD d0 (min d1 ((d0.2.2.2.2.2.2.length : Nat) : Int)).toNat).2.2.2.2.2.1).2.1).length) (q38_c6), Value.slice q38_A7 ((((settleD d0 (min d1 ((d0.2.2.2.2.2.2.length : Nat) : Int)).toNat).2.2.2.2.2.1).2.2.1).length) (q38_c7), Value.slice q38_A8 ((((settleD d0 (min d1 ((d0.2.2.2.2.2.2.length : Nat) : Int)).toNat).2.2.2.2.2.1).2.2.2).length) (q38_c8), Value.slice (some ⟨gg45, oo45, none⟩) (((settleD d0 (min d1 ((d0.2.2.2.2.2.2.length : Nat) : Int)).toNat).2.2.2.2.2.2).length) (q38_c9)]) 144 rfl rfl (.inr ⟨tk27, rfl⟩) rfl rfl rfl rfl rfl ?_
                refine VO.k8 0 1 2 6 7 8 11 49 ?_
                refine outN ?_
                refine VC.rs ?_
                refine VO.mv ?_
                refine VO.mv ?_
                refine VO.mv ?_
                refine VO.mv ?_
                refine VO.y rfl (.nilp rfl) ?_
                refine VO.y rfl (.fa rfl tst58 rfl) ?_
                refine VO.store (k := 1) (c' := [Value.bool ((settleD d0 (min d1 ((d0.2.2.2.2.2.2.length : Nat) : Int)).toNat).1), Value.bool ((settleD d0 (min d1 ((d0.2.2.2.2.2.2.length : Nat) : Int)).toNat).2.1), Value.bool ((settleD d0 (min d1 ((d0.2.2.2.2.2.2.length : Nat) : Int)).toNat).2.2.1), Value.int .i64 ((settleD d0 (min d1 ((d0.2.2.2.2.2.2.length : Nat) : Int)).toNat).2.2.2.1), Value.int .i64 ((settleD d0 (min d1 ((d0.2.2.2.2.2.2.length : Nat) : Int)).toNat).2.2.2.2.1), Value.slice A50_0 ((doneB (((settleD d0 (min d1 ((d0.2.2.2.2.2.2.length : Nat) : Int)).toNat).2.2.2.2.2.1).1) (x45.1, x45.2.1, (x45.2.2.1).take ((min d2 (((x45.2.2.1.length : Nat) : Int) - 1)).toNat), x45.2.2.2)).length) (c50_0), Value.slice q38_A6 ((((settleD d0 (min d1 ((d0.2.2.2.2.2.2.length : Nat) : Int)).toNat).2.2.2.2.2.1).2.1).length) (q38_c6), Value.slice q38_A7 ((((settleD d0 (min d1 ((d0.2.2.2.2.2.2.length : Nat) : Int)).toNat).2.2.2.2.2.1).2.2.1).length) (q38_c7), Value.slice q38_A8 ((((settleD d0 (min d1 ((d0.2.2.2.2.2.2.length : Nat) : Int)).toNat).2.2.2.2.2.1).2.2.2).length) (q38_c8), Value.slice none (0) (0)]) 144 rfl rfl (.inr ⟨tk56, rfl⟩) rfl rfl rfl rfl rfl ?_
                refine VO.y rfl (.nilp rfl) ?_
                refine VO.y rfl (.fa rfl tst58 rfl) ?_
                refine VO.store (k := 1) (c' := [Value.bool ((settleD d0 (min d1 ((d0.2.2.2.2.2.2.length : Nat) : Int)).toNat).1), Value.bool false, Value.bool ((settleD d0 (min d1 ((d0.2.2.2.2.2.2.length : Nat) : Int)).toNat).2.2.1), Value.int .i64 ((settleD d0 (min d1 ((d0.2.2.2.2.2.2.length : Nat) : Int)).toNat).2.2.2.1), Value.int .i64 ((settleD d0 (min d1 ((d0.2.2.2.2.2.2.length : Nat) : Int)).toNat).2.2.2.2.1), Value.slice A50_0 ((doneB (((settleD d0 (min d1 ((d0.2.2.2.2.2.2.length : Nat) : Int)).toNat).2.2.2.2.2.1).1) (x45.1, x45.2.1, (x45.2.2.1).take ((min d2 (((x45.2.2.1.length : Nat) : Int) - 1)).toNat), x45.2.2.2)).length) (c50_0), Value.slice q38_A6 ((((settleD d0 (min d1 ((d0.2.2.2.2.2.2.length : Nat) : Int)).toNat).2.2.2.2.2.1).2.1).length) (q38_c6), Value.slice q38_A7 ((((settleD d0 (min d1 ((d0.2.2.2.2.2.2.length : Nat) : Int)).toNat).2.2.2.2.2.1).2.2.1).length) (q38_c7), Value.slice q38_A8 ((((settleD d0 (min d1 ((d0.2.2.2.2.2.2.length : Nat) : Int)).toNat).2.2.2.2.2.1).2.2.2).length) (q38_c8), Value.slice none (0) (0)]) 144 rfl rfl (.inr ⟨tk4, rfl⟩) rfl rfl rfl rfl rfl ?_
                refine VO.y rfl (.nilp rfl) ?_
                refine VO.y rfl (.fa rfl tst58 rfl) ?_
                refine VO.store (k := 1) (c' := [Value.bool ((settleD d0 (min d1 ((d0.2.2.2.2.2.2.length : Nat) : Int)).toNat).1), Value.bool false, Value.bool false, Value.int .i64 ((settleD d0 (min d1 ((d0.2.2.2.2.2.2.length : Nat) : Int)).toNat).2.2.2.1), Value.int .i64 ((settleD d0 (min d1 ((d0.2.2.2.2.2.2.length : Nat) : Int)).toNat).2.2.2.2.1), Value.slice A50_0 ((doneB (((settleD d0 (min d1 ((d0.2.2.2.2.2.2.length : Nat) : Int)).toNat).2.2.2.2.2.1).1) (x45.1, x45.2.1, (x45.2.2.1).take ((min d2 (((x45.2.2.1.length : Nat) : Int) - 1)).toNat), x45.2.2.2)).length) (c50_0), Value.slice q38_A6 ((((settleD d0 (min d1 ((d0.2.2.2.2.2.2.length : Nat) : Int)).toNat).2.2.2.2.2.1).2.1).length) (q38_c6), Value.slice q38_A7 ((((settleD d0 (min d1 ((d0.2.2.2.2.2.2.length : Nat) : Int)).toNat).2.2.2.2.2.1).2.2.1).length) (q38_c7), Value.slice q38_A8 ((((settleD d0 (min d1 ((d0.2.2.2.2.2.2.length : Nat) : Int)).toNat).2.2.2.2.2.1).2.2.2).length) (q38_c8), Value.slice none (0) (0)]) 144 rfl rfl (.inr ⟨tk4, rfl⟩) rfl rfl rfl rfl rfl ?_
                refine VO.y rfl (.nilp rfl) ?_
                refine VO.y rfl (.fa rfl tst58 rfl) ?_
                refine VO.store (k := 1) (c' := [Value.bool ((settleD d0 (min d1 ((d0.2.2.2.2.2.2.length : Nat) : Int)).toNat).1), Value.bool false, Value.bool false, Value.int .i64 (0), Value.int .i64 ((settleD d0 (min d1 ((d0.2.2.2.2.2.2.length : Nat) : Int)).toNat).2.2.2.2.1), Value.slice A50_0 ((doneB (((settleD d0 (min d1 ((d0.2.2.2.2.2.2.length : Nat) : Int)).toNat).2.2.2.2.2.1).1) (x45.1, x45.2.1, (x45.2.2.1).take ((min d2 (((x45.2.2.1.length : Nat) : Int) - 1)).toNat), x45.2.2.2)).length) (c50_0), Value.slice q38_A6 ((((settleD d0 (min d1 ((d0.2.2.2.2.2.2.length : Nat) : Int)).toNat).2.2.2.2.2.1).2.1).length) (q38_c6), Value.slice q38_A7 ((((settleD d0 (min d1 ((d0.2.2.2.2.2.2.length : Nat) : Int)).toNat).2.2.2.2.2.1).2.2.1).length) (q38_c7), Value.slice q38_A8 ((((settleD d0 (min d1 ((d0.2.2.2.2.2.2.length : Nat) : Int)).toNat).2.2.2.2.2.1).2.2.2).length) (q38_c8), Value.slice none (0) (0)]) 144 rfl rfl (.inr ⟨tk3, rfl⟩) rfl rfl rfl rfl rfl ?_
                refine VO.gather (l := [mone g0 (.cells [Value.bool ((settleD d0 (min d1 ((d0.2.2.2.2.2.2.length : Nat) : Int)).toNat).1), Value.bool false, Value.bool false, Value.int .i64 (0), Value.int .i64 ((settleD d0 (min d1 ((d0.2.2.2.2.2.2.length : Nat) : Int)).toNat).2.2.2.2.1), Value.slice A50_0 ((doneB (((settleD d0 (min d1 ((d0.2.2.2.2.2.2.length : Nat) : Int)).toNat).2.2.2.2.2.1).1) (x45.1, x45.2.1, (x45.2.2.1).take ((min d2 (((x45.2.2.1.length : Nat) : Int) - 1)).toNat), x45.2.2.2)).length) (c50_0), Value.slice q38_A6 ((((settleD d0 (min d1 ((d0.2.2.2.2.2.2.length : Nat) : Int)).toNat).2.2.2.2.2.1).2.1).length) (q38_c6), Value.slice q38_A7 ((((settleD d0 (min d1 ((d0.2.2.2.2.2.2.length : Nat) : Int)).toNat).2.2.2.2.2.1).2.2.1).length) (q38_c7), Value.slice q38_A8 ((((settleD d0 (min d1 ((d0.2.2.2.2.2.2.length : Nat) : Int)).toNat).2.2.2.2.2.1).2.2.2).length) (q38_c8), Value.slice none (0) (0)].toArray q38_E (0, 0)), m50, q38_n6, q38_n7, q38_n8]) 151 [144, 139, 140, 141, 142] rfl (fun hg51 => ?_)
                have ho51 : Ow (.ptr TdiskDisk) (muns [mone g0 (.cells [Value.bool ((settleD d0 (min d1 ((d0.2.2.2.2.2.2.length : Nat) : Int)).toNat).1), Value.bool false, Value.bool false, Value.int .i64 (0), Value.int .i64 ((settleD d0 (min d1 ((d0.2.2.2.2.2.2.length : Nat) : Int)).toNat).2.2.2.2.1), Value.slice A50_0 ((doneB (((settleD d0 (min d1 ((d0.2.2.2.2.2.2.length : Nat) : Int)).toNat).2.2.2.2.2.1).1) (x45.1, x45.2.1, (x45.2.2.1).take ((min d2 (((x45.2.2.1.length : Nat) : Int) - 1)).toNat), x45.2.2.2)).length) (c50_0), Value.slice q38_A6 ((((settleD d0 (min d1 ((d0.2.2.2.2.2.2.length : Nat) : Int)).toNat).2.2.2.2.2.1).2.1).length) (q38_c6), Value.slice q38_A7 ((((settleD d0 (min d1 ((d0.2.2.2.2.2.2.length : Nat) : Int)).toNat).2.2.2.2.2.1).2.2.1).length) (q38_c7), Value.slice q38_A8 ((((settleD d0 (min d1 ((d0.2.2.2.2.2.2.length : Nat) : Int)).toNat).2.2.2.2.2.1).2.2.2).length) (q38_c8), Value.slice none (0) (0)].toArray q38_E (0, 0)), m50, q38_n6, q38_n7, q38_n8]) [.pointer (some ⟨g0, 0, none⟩)] (g0, ((settleD d0 (min d1 ((d0.2.2.2.2.2.2.length : Nat) : Int)).toNat).1, false, false, 0, (settleD d0 (min d1 ((d0.2.2.2.2.2.2.length : Nat) : Int)).toNat).2.2.2.2.1, (doneB (((settleD d0 (min d1 ((d0.2.2.2.2.2.2.length : Nat) : Int)).toNat).2.2.2.2.2.1).1) (x45.1, x45.2.1, (x45.2.2.1).take ((min d2 (((x45.2.2.1.length : Nat) : Int) - 1)).toNat), x45.2.2.2), ((settleD d0 (min d1 ((d0.2.2.2.2.2.2.length : Nat) : Int)).toNat).2.2.2.2.2.1).2), [])) := (mkP_diskDisk ((settleD d0 (min d1 ((d0.2.2.2.2.2.2.length : Nat) : Int)).toNat).1) false false 0 ((settleD d0 (min d1 ((d0.2.2.2.2.2.2.length : Nat) : Int)).toNat).2.2.2.2.1) (doneB (((settleD d0 (min d1 ((d0.2.2.2.2.2.2.length : Nat) : Int)).toNat).2.2.2.2.2.1).1) (x45.1, x45.2.1, (x45.2.2.1).take ((min d2 (((x45.2.2.1.length : Nat) : Int) - 1)).toNat), x45.2.2.2)) (((settleD d0 (min d1 ((d0.2.2.2.2.2.2.length : Nat) : Int)).toNat).2.2.2.2.2.1).2.1) (((settleD d0 (min d1 ((d0.2.2.2.2.2.2.length : Nat) : Int)).toNat).2.2.2.2.2.1).2.2.1) (((settleD d0 (min d1 ((d0.2.2.2.2.2.2.length : Nat) : Int)).toNat).2.2.2.2.2.1).2.2.2) [] (Seps.nilAt 5 hg51) (by simp only [inK]; (exact fin2_dStart_ok)) (by simp only [inK]; (exact fin2_dStart_ok)) (OwnL.ow (Ow.ownl f50_0 rfl mnil) rfl) (OwnL.ow (Ow.ownl q38_6 rfl mnil) rfl) (OwnL.ow (Ow.ownl q38_7 rfl mnil) rfl) (OwnL.ow (Ow.ownl q38_8 rfl mnil) rfl) (Ow.nil _ _))
                refine VO.keep [151, 147, 143, 0] [(151, muns [mone g0 (.cells [Value.bool ((settleD d0 (min d1 ((d0.2.2.2.2.2.2.length : Nat) : Int)).toNat).1), Value.bool false, Value.bool false, Value.int .i64 (0), Value.int .i64 ((settleD d0 (min d1 ((d0.2.2.2.2.2.2.length : Nat) : Int)).toNat).2.2.2.2.1), Value.slice A50_0 ((doneB (((settleD d0 (min d1 ((d0.2.2.2.2.2.2.length : Nat) : Int)).toNat).2.2.2.2.2.1).1) (x45.1, x45.2.1, (x45.2.2.1).take ((min d2 (((x45.2.2.1.length : Nat) : Int) - 1)).toNat), x45.2.2.2)).length) (c50_0), Value.slice q38_A6 ((((settleD d0 (min d1 ((d0.2.2.2.2.2.2.length : Nat) : Int)).toNat).2.2.2.2.2.1).2.1).length) (q38_c6), Value.slice q38_A7 ((((settleD d0 (min d1 ((d0.2.2.2.2.2.2.length : Nat) : Int)).toNat).2.2.2.2.2.1).2.2.1).length) (q38_c7), Value.slice q38_A8 ((((settleD d0 (min d1 ((d0.2.2.2.2.2.2.length : Nat) : Int)).toNat).2.2.2.2.2.1).2.2.2).length) (q38_c8), Value.slice none (0) (0)].toArray q38_E (0, 0)), m50, q38_n6, q38_n7, q38_n8]), (147, mone g46 (.cells [Value.int .i64 (x45.1), Value.int .i64 (x45.2.1), Value.slice q45_A2 ((min d2 (((x45.2.2.1.length : Nat) : Int) - 1)).toNat) (q45_c2), Value.int .i64 (x45.2.2.2)].toArray 64 (0, 0))), (143, q38_n9), (0, mout (wm W) (m0))] (by kernel_rfl) ?_
                refine VO.k8 0 1 2 6 7 8 11 49 ?_
                refine VC.rs ?_
                refine VO.as ?_
                refine VO.k8 0 1 2 6 7 8 11 49 ?_
                refine VC.ret ?_
                refine ⟨_, _, res_run (rs := [.tmp 6]) rfl (.tmp rfl .nil), fun W_ hI => out_of (l := [muns [mone g0 (.cells [Value.bool ((settleD d0 (min d1 ((d0.2.2.2.2.2.2.length : Nat) : Int)).toNat).1), Value.bool false, Value.bool false, Value.int .i64 (0), Value.int .i64 ((settleD d0 (min d1 ((d0.2.2.2.2.2.2.length : Nat) : Int)).toNat).2.2.2.2.1), Value.slice A50_0 ((doneB (((settleD d0 (min d1 ((d0.2.2.2.2.2.2.length : Nat) : Int)).toNat).2.2.2.2.2.1).1) (x45.1, x45.2.1, (x45.2.2.1).take ((min d2 (((x45.2.2.1.length : Nat) : Int) - 1)).toNat), x45.2.2.2)).length) (c50_0), Value.slice q38_A6 ((((settleD d0 (min d1 ((d0.2.2.2.2.2.2.length : Nat) : Int)).toNat).2.2.2.2.2.1).2.1).length) (q38_c6), Value.slice q38_A7 ((((settleD d0 (min d1 ((d0.2.2.2.2.2.2.length : Nat) : Int)).toNat).2.2.2.2.2.1).2.2.1).length) (q38_c7), Value.slice q38_A8 ((((settleD d0 (min d1 ((d0.2.2.2.2.2.2.length : Nat) : Int)).toNat).2.2.2.2.2.1).2.2.2).length) (q38_c8), Value.slice none (0) (0)].toArray q38_E (0, 0)), m50, q38_n6, q38_n7, q38_n8]]) hI [151] rfl rfl (mle_refl _) (fun hS_ => ?_)⟩
                dsimp only [packV]
                have hm0_ : ((dStart d0 d1 d2).1 : DdiskDisk) = ((settleD d0 (min d1 ((d0.2.2.2.2.2.2.length : Nat) : Int)).toNat).1, false, false, 0, (settleD d0 (min d1 ((d0.2.2.2.2.2.2.length : Nat) : Int)).toNat).2.2.2.2.1, (doneB (((settleD d0 (min d1 ((d0.2.2.2.2.2.2.length : Nat) : Int)).toNat).2.2.2.2.2.1).1) (x45.1, x45.2.1, (x45.2.2.1).take ((min d2 (((x45.2.2.1.length : Nat) : Int) - 1)).toNat), x45.2.2.2), ((settleD d0 (min d1 ((d0.2.2.2.2.2.2.length : Nat) : Int)).toNat).2.2.2.2.2.1).2), []) := by first | rfl | (exact fin0_dStart_ok)
                refine ⟨?_, ?_⟩
                rotate_left
                · rw [hm0_]; exact (Ow.up ho51 (hS_.1 _ (.head _)))
                all_goals (first | rfl | (exact fin0_dStart_ok))
              · -- FFFFTT1
                refine VD.y rfl rfl (.inl rfl) (.ixa (i := 1) (o := 6) rfl rfl tar28 hi49 rfl rfl) ?_
                refine VD.y rfl rfl (.inl rfl) (.ld1 144 rfl tk27 rfl (cellsAt_one rfl rfl)) ?_
                refine VD.y rfl rfl (.inl rfl) (.ldA 147 rfl tk64 rfl (cellsAt_one rfl rfl)) ?_
                refine VD.y rfl rfl (.inl rfl) (.nilp rfl) ?_
                refine VD.y rfl rfl (.inl rfl) (.fa rfl tst58 rfl) ?_
                refine VD.call 140 rfl rfl (.inl rfl) fnOk40 rfl rfl (fun _ _ h => h.sub [147, 144, 143, 0]) (fun W hW => dDone_ok W (hW.at (i := 140) rfl) (OwnL.ow (Ow.ownl q38_6 rfl mnil) rfl) (mk_diskstep (m := mout (wm W) (q38_n6)) x45.1 x45.2.1 ((x45.2.2.1).take ((min d2 (((x45.2.2.1.length : Nat) : Int) - 1)).toNat)) x45.2.2.2 (by simp only [inK]; (exact fin2_dStart_ok)) (by simp only [inK]; (exact fin2_dStart_ok)) (Rd.mono hs48 (hW.out (i := 140) (j := 143) rfl rfl)) (by simp only [inK]; (exact fin2_dStart_ok))) (by intro h_; omega) (by (have h_ := (start_good (by assumption) ‹_[0]? = some _›).2.2; first | (rw [getF0 ‹_ = (0 : Int)›] at h_; simp only [List.length_take]; omega) | (rw [getF1 ‹_ = (1 : Int)›] at h_; simp only [List.length_take]; omega) | (rw [getF2 ‹_ = (2 : Int)›] at h_; simp only [List.length_take]; omega) | (rw [getF3 ‹_ = (3 : Int)›] at h_; simp only [List.length_take]; omega)))) (fun v52 m52 hv52 => ?_)
                try dsimp only at hv52
                obtain ⟨s52_0, rfl, f52_0⟩ := hv52
                obtain ⟨A52_0, c52_0, eq52_0, l52_0, k52_0⟩ := f52_0.slice
                subst eq52_0
                simp only [maxLen] at k52_0
                refine VD.nil rfl ?_ rfl
                refine VO.y rfl (.ixa (i := 1) (o := 6) rfl rfl tar28 hi49 rfl rfl) ?_
                refine VO.store (k := 1) (c' := [Value.bool ((settleD d0 (min d1 ((d0.2.2.2.2.2.2.length : Nat) : Int)).toNat).1), Value.bool ((settleD d0 (min d1 ((d0.2.2.2.2.2.2.length : Nat) : Int)).toNat).2.1), Value.bool ((settleD d0 (min d1 ((d0.2.2.2.2.2.2.length : Nat) : Int)).toNat).2.2.1), Value.int .i64 ((settleD d0 (min d1 ((d0.2.2.2.2.2.2.length : Nat) : Int)).toNat).2.2.2.1), Value.int .i64 ((settleD d0 (min d1 ((d0.2.2.2.2.2.2.length : Nat) : Int)).toNat).2.2.2.2.1), Value.slice q38_A5 ((((settleD d0 (min d1 ((d0.2.2.2.2.2.2.length : Nat) : Int)).toNat).2.2.2.2.2.1).1).length) (q38_c5), Value.slice A52_0 ((doneB (((settleD d0 (min d1 ((d0.2.2.2.2.2.2.length : Nat) : Int)).toNat).2.2.2.2.2.1).2.1) (x45.1, x45.2.1, (x45.2.2.1).take ((min d2 (((x45.2.2.1.length : Nat) : Int) - 1)).toNat), x45.2.2.2)).length) (c52_0), Value.slice q38_A7 ((((settleD d0 (min d1 ((d0.2.2.2.2.2.2.length : Nat) : Int)).toNat).2.2.2.2.2.1).2.2.1).length) (q38_c7), Value.slice q38_A8 ((((settleD d0 (min d1 ((d0.2.2.2.2.2.2.length : Nat) : Int)).toNat).2.2.2.2.2.1).2.2.2).length) (q38_c8), Value.slice (some ⟨gg45, oo45, none⟩) (((settleD d0 (min d1 ((d0.2.2.2.2.2.2.length : Nat) : Int)).toNat).2.2.2.2.2.2).length) (q38_c9)]) 144 rfl rfl (.inr ⟨tk27, rfl⟩) rfl rfl rfl rfl rfl ?_
                refine VO.k8 0 1 2 6 7 8 11 49 ?_
                refine outN ?_
                refine VC.rs ?_
                refine VO.mv ?_
                refine VO.mv ?_
                refine VO.mv ?_
                refine VO.mv ?_
                refine VO.y rfl (.nilp rfl) ?_
                refine VO.y rfl (.fa rfl tst58 rfl) ?_
                refine VO.store (k := 1) (c' := [Value.bool ((settleD d0 (min d1 ((d0.2.2.2.2.2.2.length : Nat) : Int)).toNat).1), Value.bool ((settleD d0 (min d1 ((d0.2.2.2.2.2.2.length : Nat) : Int)).toNat).2.1), Value.bool ((settleD d0 (min d1 ((d0.2.2.2.2.2.2.length : Nat) : Int)).toNat).2.2.1), Value.int .i64 ((settleD d0 (min d1 ((d0.2.2.2.2.2.2.length : Nat) : Int)).toNat).2.2.2.1), Value.int .i64 ((settleD d0 (min d1 ((d0.2.2.2.2.2.2.length : Nat) : Int)).toNat).2.2.2.2.1), Value.slice q38_A5 ((((settleD d0 (min d1 ((d0.2.2.2.2.2.2.length : Nat) : Int)).toNat).2.2.2.2.2.1).1).length) (q38_c5), Value.slice A52_0 ((doneB (((settleD d0 (min d1 ((d0.2.2.2.2.2.2.length : Nat) : Int)).toNat).2.2.2.2.2.1).2.1) (x45.1, x45.2.1, (x45.2.2.1).take ((min d2 (((x45.2.2.1.length : Nat) : Int) - 1)).toNat), x45.2.2.2)).length) (c52_0), Value.slice q38_A7 ((((settleD d0 (min d1 ((d0.2.2.2.2.2.2.length : Nat) : Int)).toNat).2.2.2.2.2.1).2.2.1).length) (q38_c7), Value.slice q38_A8 ((((settleD d0 (min d1 ((d0.2.2.2.2.2.2.length : Nat) : Int)).toNat).2.2.2.2.2.1).2.2.2).length) (q38_c8), Value.slice none (0) (0)]) 144 rfl rfl (.inr ⟨tk56, rfl⟩) rfl rfl rfl rfl rfl ?_
                refine VO.y rfl (.nilp rfl) ?_
                refine VO.y rfl (.fa rfl tst58 rfl) ?_
                refine VO.store (k := 1) (c' := [Value.bool ((settleD d0 (min d1 ((d0.2.2.2.2.2.2.length : Nat) : Int)).toNat).1), Value.bool false, Value.bool ((settleD d0 (min d1 ((d0.2.2.2.2.2.2.length : Nat) : Int)).toNat).2.2.1), Value.int .i64 ((settleD d0 (min d1 ((d0.2.2.2.2.2.2.length : Nat) : Int)).toNat).2.2.2.1), Value.int .i64 ((settleD d0 (min d1 ((d0.2.2.2.2.2.2.length : Nat) : Int)).toNat).2.2.2.2.1), Value.slice q38_A5 ((((settleD d0 (min d1 ((d0.2.2.2.2.2.2.length : Nat) : Int)).toNat).2.2.2.2.2.1).1).length) (q38_c5), Value.slice A52_0 ((doneB (((settleD d0 (min d1 ((d0.2.2.2.2.2.2.length : Nat) : Int)).toNat).2.2.2.2.2.1).2.1) (x45.1, x45.2.1, (x45.2.2.1).take ((min d2 (((x45.2.2.1.length : Nat) : Int) - 1)).toNat), x45.2.2.2)).length) (c52_0), Value.slice q38_A7 ((((settleD d0 (min d1 ((d0.2.2.2.2.2.2.length : Nat) : Int)).toNat).2.2.2.2.2.1).2.2.1).length) (q38_c7), Value.slice q38_A8 ((((settleD d0 (min d1 ((d0.2.2.2.2.2.2.length : Nat) : Int)).toNat).2.2.2.2.2.1).2.2.2).length) (q38_c8), Value.slice none (0) (0)]) 144 rfl rfl (.inr ⟨tk4, rfl⟩) rfl rfl rfl rfl rfl ?_
                refine VO.y rfl (.nilp rfl) ?_
                refine VO.y rfl (.fa rfl tst58 rfl) ?_
                refine VO.store (k := 1) (c' := [Value.bool ((settleD d0 (min d1 ((d0.2.2.2.2.2.2.length : Nat) : Int)).toNat).1), Value.bool false, Value.bool false, Value.int .i64 ((settleD d0 (min d1 ((d0.2.2.2.2.2.2.length : Nat) : Int)).toNat).2.2.2.1), Value.int .i64 ((settleD d0 (min d1 ((d0.2.2.2.2.2.2.length : Nat) : Int)).toNat).2.2.2.2.1), Value.slice q38_A5 ((((settleD d0 (min d1 ((d0.2.2.2.2.2.2.length : Nat) : Int)).toNat).2.2.2.2.2.1).1).length) (q38_c5), Value.slice A52_0 ((doneB (((settleD d0 (min d1 ((d0.2.2.2.2.2.2.length : Nat) : Int)).toNat).2.2.2.2.2.1).2.1) (x45.1, x45.2.1, (x45.2.2.1).take ((min d2 (((x45.2.2.1.length : Nat) : Int) - 1)).toNat), x45.2.2.2)).length) (c52_0), Value.slice q38_A7 ((((settleD d0 (min d1 ((d0.2.2.2.2.2.2.length : Nat) : Int)).toNat).2.2.2.2.2.1).2.2.1).length) (q38_c7), Value.slice q38_A8 ((((settleD d0 (min d1 ((d0.2.2.2.2.2.2.length : Nat) : Int)).toNat).2.2.2.2.2.1).2.2.2).length) (q38_c8), Value.slice none (0) (0)]) 144 rfl rfl (.inr ⟨tk4, rfl⟩) rfl rfl rfl rfl rfl ?_
                refine VO.y rfl (.nilp rfl) ?_
                refine VO.y rfl (.fa rfl tst58 rfl) ?_
                refine VO.store (k := 1) (c' := [Value.bool ((settleD d0 (min d1 ((d0.2.2.2.2.2.2.length : Nat) : Int)).toNat).1), Value.bool false, Value.bool false, Value.int .i64 (0), Value.int .i64 ((settleD d0 (min d1 ((d0.2.2.2.2.2.2.length : Nat) : Int)).toNat).2.2.2.2.1), Value.slice q38_A5 ((((settleD d0 (min d1 ((d0.2.2.2.2.2.2.length : Nat) : Int)).toNat).2.2.2.2.2.1).1).length) (q38_c5), Value.slice A52_0 ((doneB (((settleD d0 (min d1 ((d0.2.2.2.2.2.2.length : Nat) : Int)).toNat).2.2.2.2.2.1).2.1) (x45.1, x45.2.1, (x45.2.2.1).take ((min d2 (((x45.2.2.1.length : Nat) : Int) - 1)).toNat), x45.2.2.2)).length) (c52_0), Value.slice q38_A7 ((((settleD d0 (min d1 ((d0.2.2.2.2.2.2.length : Nat) : Int)).toNat).2.2.2.2.2.1).2.2.1).length) (q38_c7), Value.slice q38_A8 ((((settleD d0 (min d1 ((d0.2.2.2.2.2.2.length : Nat) : Int)).toNat).2.2.2.2.2.1).2.2.2).length) (q38_c8), Value.slice none (0) (0)]) 144 rfl rfl (.inr ⟨tk3, rfl⟩) rfl rfl rfl rfl rfl ?_
                refine VO.gather (l := [mone g0 (.cells [Value.bool ((settleD d0 (min d1 ((d0.2.2.2.2.2.2.length : Nat) : Int)).toNat).1), Value.bool false, Value.bool false, Value.int .i64 (0), Value.int .i64 ((settleD d0 (min d1 ((d0.2.2.2.2.2.2.length : Nat) : Int)).toNat).2.2.2.2.1), Value.slice q38_A5 ((((settleD d0 (min d1 ((d0.2.2.2.2.2.2.length : Nat) : Int)).toNat).2.2.2.2.2.1).1).length) (q38_c5), Value.slice A52_0 ((doneB (((settleD d0 (min d1 ((d0.2.2.2.2.2.2.length : Nat) : Int)).toNat).2.2.2.2.2.1).2.1) (x45.1, x45.2.1, (x45.2.2.1).take ((min d2 (((x45.2.2.1.length : Nat) : Int) - 1)).toNat), x45.2.2.2)).length) (c52_0), Value.slice q38_A7 ((((settleD d0 (min d1 ((d0.2.2.2.2.2.2.length : Nat) : Int)).toNat).2.2.2.2.2.1).2.2.1).length) (q38_c7), Value.slice q38_A8 ((((settleD d0 (min d1 ((d0.2.2.2.2.2.2.length : Nat) : Int)).toNat).2.2.2.2.2.1).2.2.2).length) (q38_c8), Value.slice none (0) (0)].toArray q38_E (0, 0)), q38_n5, m52, q38_n7, q38_n8]) 153 [144, 139, 140, 141, 142] rfl (fun hg53 => ?_)
                have ho53 : Ow (.ptr TdiskDisk) (muns [mone g0 (.cells [Value.bool ((settleD d0 (min d1 ((d0.2.2.2.2.2.2.length : Nat) : Int)).toNat).1), Value.bool false, Value.bool false, Value.int .i64 (0), Value.int .i64 ((settleD d0 (min d1 ((d0.2.2.2.2.2.2.length : Nat) : Int)).toNat).2.2.2.2.1), Value.slice q38_A5 ((((settleD d0 (min d1 ((d0.2.2.2.2.2.2.length : Nat) : Int)).toNat).2.2.2.2.2.1).1).length) (q38_c5), Value.slice A52_0 ((doneB (((settleD d0 (min d1 ((d0.2.2.2.2.2.2.length : Nat) : Int)).toNat).2.2.2.2.2.1).2.1) (x45.1, x45.2.1, (x45.2.2.1).take ((min d2 (((x45.2.2.1.length : Nat) : Int) - 1)).toNat), x45.2.2.2)).length) (c52_0), Value.slice q38_A7 ((((settleD d0 (min d1 ((d0.2.2.2.2.2.2.length : Nat) : Int)).toNat).2.2.2.2.2.1).2.2.1).length) (q38_c7), Value.slice q38_A8 ((((settleD d0 (min d1 ((d0.2.2.2.2.2.2.length : Nat) : Int)).toNat).2.2.2.2.2.1).2.2.2).length) (q38_c8), Value.slice none (0) (0)].toArray q38_E (0, 0)), q38_n5, m52, q38_n7, q38_n8]) [.pointer (some ⟨g0, 0, none⟩)] (g0, ((settleD d0 (min d1 ((d0.2.2.2.2.2.2.length : Nat) : Int)).toNat).1, false, false, 0, (settleD d0 (min d1 ((d0.2.2.2.2.2.2.length : Nat) : Int)).toNat).2.2.2.2.1, (((settleD d0 (min d1 ((d0.2.2.2.2.2.2.length : Nat) : Int)).toNat).2.2.2.2.2.1).1, doneB (((settleD d0 (min d1 ((d0.2.2.2.2.2.2.length : Nat) : Int)).toNat).2.2.2.2.2.1).2.1) (x45.1, x45.2.1, (x45.2.2.1).take ((min d2 (((x45.2.2.1.length : Nat) : Int) - 1)).toNat), x45.2.2.2), ((settleD d0 (min d1 ((d0.2.2.2.2.2.2.length : Nat) : Int)).toNat).2.2.2.2.2.1).2.2), [])) := (mkP_diskDisk ((settleD d0 (min d1 ((d0.2.2.2.2.2.2.length : Nat) : Int)).toNat).1) false false 0 ((settleD d0 (min d1 ((d0.2.2.2.2.2.2.length : Nat) : Int)).toNat).2.2.2.2.1) (((settleD d0 (min d1 ((d0.2.2.2.2.2.2.length : Nat) : Int)).toNat).2.2.2.2.2.1).1) (doneB (((settleD d0 (min d1 ((d0.2.2.2.2.2.2.length : Nat) : Int)).toNat).2.2.2.2.2.1).2.1) (x45.1, x45.2.1, (x45.2.2.1).take ((min d2 (((x45.2.2.1.length : Nat) : Int) - 1)).toNat), x45.2.2.2)) (((settleD d0 (min d1 ((d0.2.2.2.2.2.2.length : Nat) : Int)).toNat).2.2.2.2.2.1).2.2.1) (((settleD d0 (min d1 ((d0.2.2.2.2.2.2.length : Nat) : Int)).toNat).2.2.2.2.2.1).2.2.2) [] (Seps.nilAt 5 hg53) (by simp only [inK]; (exact fin2_dStart_ok)) (by simp only [inK]; (exact fin2_dStart_ok)) (OwnL.ow (Ow.ownl q38_5 rfl mnil) rfl) (OwnL.ow (Ow.ownl f52_0 rfl mnil) rfl) (OwnL.ow (Ow.ownl q38_7 rfl mnil) rfl) (OwnL.ow (Ow.ownl q38_8 rfl mnil) rfl) (Ow.nil _ _))
                refine VO.keep [153, 147, 143, 0] [(153, muns [mone g0 (.cells [Value.bool ((settleD d0 (min d1 ((d0.2.2.2.2.2.2.length : Nat) : Int)).toNat).1), Value.bool false, Value.bool false, Value.int .i64 (0), Value.int .i64 ((settleD d0 (min d1 ((d0.2.2.2.2.2.2.length : Nat) : Int)).toNat).2.2.2.2.1), Value.slice q38_A5 ((((settleD d0 (min d1 ((d0.2.2.2.2.2.2.length : Nat) : Int)).toNat).2.2.2.2.2.1).1).length) (q38_c5), Value.slice A52_0 ((doneB (((settleD d0 (min d1 ((d0.2.2.2.2.2.2.length : Nat) : Int)).toNat).2.2.2.2.2.1).2.1) (x45.1, x45.2.1, (x45.2.2.1).take ((min d2 (((x45.2.2.1.length : Nat) : Int) - 1)).toNat), x45.2.2.2)).length) (c52_0), Value.slice q38_A7 ((((settleD d0 (min d1 ((d0.2.2.2.2.2.2.length : Nat) : Int)).toNat).2.2.2.2.2.1).2.2.1).length) (q38_c7), Value.slice q38_A8 ((((settleD d0 (min d1 ((d0.2.2.2.2.2.2.length : Nat) : Int)).toNat).2.2.2.2.2.1).2.2.2).length) (q38_c8), Value.slice none (0) (0)].toArray q38_E (0, 0)), q38_n5, m52, q38_n7, q38_n8]), (147, mone g46 (.cells [Value.int .i64 (x45.1), Value.int .i64 (x45.2.1), Value.slice q45_A2 ((min d2 (((x45.2.2.1.length : Nat) : Int) - 1)).toNat) (q45_c2), Value.int .i64 (x45.2.2.2)].toArray 64 (0, 0))), (143, q38_n9), (0, mout (wm W) (m0))] (by kernel_rfl) ?_
                refine VO.k8 0 1 2 6 7 8 11 49 ?_
                refine VC.rs ?_
                refine VO.as ?_
                refine VO.k8 0 1 2 6 7 8 11 49 ?_
                refine VC.ret ?_
                refine ⟨_, _, res_run (rs := [.tmp 6]) rfl (.tmp rfl .nil), fun W_ hI => out_of (l := [muns [mone g0 (.cells [Value.bool ((settleD d0 (min d1 ((d0.2.2.2.2.2.2.length : Nat) : Int)).toNat).1), Value.bool false, Value.bool false, Value.int .i64 (0), Value.int .i64 ((settleD d0 (min d1 ((d0.2.2.2.2.2.2.length : Nat) : Int)).toNat).2.2.2.2.1), Value.slice q38_A5 ((((settleD d0 (min d1 ((d0.2.2.2.2.2.2.length : Nat) : Int)).toNat).2.2.2.2.2.1).1).length) (q38_c5), Value.slice A52_0 ((doneB (((settleD d0 (min d1 ((d0.2.2.2.2.2.2.length : Nat) : Int)).toNat).2.2.2.2.2.1).2.1) (x45.1, x45.2.1, (x45.2.2.1).take ((min d2 (((x45.2.2.1.length : Nat) : Int) - 1)).toNat), x45.2.2.2)).length) (c52_0), Value.slice q38_A7 ((((settleD d0 (min d1 ((d0.2.2.2.2.2.2.length : Nat) : Int)).toNat).2.2.2.2.2.1).2.2.1).length) (q38_c7), Value.slice q38_A8 ((((settleD d0 (min d1 ((d0.2.2.2.2.2.2.length : Nat) : Int)).toNat).2.2.2.2.2.1).2.2.2).length) (q38_c8), Value.slice none (0) (0)].toArray q38_E (0, 0)), q38_n5, m52, q38_n7, q38_n8]]) hI [153] rfl rfl (mle_refl _) (fun hS_ => ?_)⟩
                dsimp only [packV]
                have hm0_ : ((dStart d0 d1 d2).1 : DdiskDisk) = ((settleD d0 (min d1 ((d0.2.2.2.2.2.2.length : Nat) : Int)).toNat).1, false, false, 0, (settleD d0 (min d1 ((d0.2.2.2.2.2.2.length : Nat) : Int)).toNat).2.2.2.2.1, (((settleD d0 (min d1 ((d0.2.2.2.2.2.2.length : Nat) : Int)).toNat).2.2.2.2.2.1).1, doneB (((settleD d0 (min d1 ((d0.2.2.2.2.2.2.length : Nat) : Int)).toNat).2.2.2.2.2.1).2.1) (x45.1, x45.2.1, (x45.2.2.1).take ((min d2 (((x45.2.2.1.length : Nat) : Int) - 1)).toNat), x45.2.2.2), ((settleD d0 (min d1 ((d0.2.2.2.2.2.2.length : Nat) : Int)).toNat).2.2.2.2.2.1).2.2), []) := by first | rfl | (exact fin0_dStart_ok)
                refine ⟨?_, ?_⟩
                rotate_left
                · rw [hm0_]; exact (Ow.up ho53 (hS_.1 _ (.head _)))
                all_goals (first | rfl | (exact fin0_dStart_ok))
              · -- FFFFTT2
                refine VD.y rfl rfl (.inl rfl) (.ixa (i := 2) (o := 7) rfl rfl tar28 hi49 rfl rfl) ?_
                refine VD.y rfl rfl (.inl rfl) (.ld1 144 rfl tk27 rfl (cellsAt_one rfl rfl)) ?_
                refine VD.y rfl rfl (.inl rfl) (.ldA 147 rfl tk64 rfl (cellsAt_one rfl rfl)) ?_
                refine VD.y rfl rfl (.inl rfl) (.nilp rfl) ?_
                refine VD.y rfl rfl (.inl rfl) (.fa rfl tst58 rfl) ?_
                refine VD.call 141 rfl rfl (.inl rfl) fnOk40 rfl rfl (fun _ _ h => h.sub [147, 144, 143, 0]) (fun W hW => dDone_ok W (hW.at (i := 141) rfl) (OwnL.ow (Ow.ownl q38_7 rfl mnil) rfl) (mk_diskstep (m := mout (wm W) (q38_n7)) x45.1 x45.2.1 ((x45.2.2.1).take ((min d2 (((x45.2.2.1.length : Nat) : Int) - 1)).toNat)) x45.2.2.2 (by simp only [inK]; (exact fin2_dStart_ok)) (by simp only [inK]; (exact fin2_dStart_ok)) (Rd.mono hs48 (hW.out (i := 141) (j := 143) rfl rfl)) (by simp only [inK]; (exact fin2_dStart_ok))) (by intro h_; omega) (by (have h_ := (start_good (by assumption) ‹_[0]? = some _›).2.2; first | (rw [getF0 ‹_ = (0 : Int)›] at h_; simp only [List.length_take]; omega) | (rw [getF1 ‹_ = (1 : Int)›] at h_; simp only [List.length_take]; omega) | (rw [getF2 ‹_ = (2 : Int)›] at h_; simp only [List.length_take]; omega) | (rw [getF3 ‹_ = (3 : Int)›] at h_; simp only [List.length_take]; omega)))) (fun v54 m54 hv54 => ?_)
                try dsimp only at hv54
                obtain ⟨s54_0, rfl, f54_0⟩ := hv54
                obtain ⟨A54_0, c54_0, eq54_0, l54_0, k54_0⟩ := f54_0.slice
                subst eq54_0
                simp only [maxLen] at k54_0
                refine VD.nil rfl ?_ rfl
                refine VO.y rfl (.ixa (i := 2) (o := 7) rfl rfl tar28 hi49 rfl rfl) ?_
                refine VO.store (k := 1) (c' := [Value.bool ((settleD d0 (min d1 ((d0.2.2.2.2.2.2.length : Nat) : Int)).toNat).1), Value.bool ((settleD d0 (min d1 ((d0.2.2.2.2.2.2.length : Nat) : Int)).toNat).2.1), Value.bool ((settleD d0 (min d1 ((d0.2.2.2.2.2.2.length : Nat) : Int)).toNat).2.2.1), Value.int .i64 ((settleD d0 (min d1 ((d0.2.2.2.2.2.2.length : Nat) : Int)).toNat).2.2.2.1), Value.int .i64 ((settleD d0 (min d1 ((d0.2.2.2.2.2.2.length : Nat) : Int)).toNat).2.2.2.2.1), Value.slice q38_A5 ((((settleD d0 (min d1 ((d0.2.2.2.2.2.2.length : Nat) : Int)).toNat).2.2.2.2.2.1).1).length) (q38_c5), Value.slice q38_A6 ((((settleD d0 (min d1 ((d0.2.2.2.2.2.2.length : Nat) : Int)).toNat).2.2.2.2.2.1).2.1).length) (q38_c6), Value.slice A54_0 ((doneB (((settleD d0 (min d1 ((d0.2.2.2.2.2.2.length : Nat) : Int)).toNat).2.2.2.2.2.1).2.2.1) (x45.1, x45.2.1, (x45.2.2.1).take ((min d2 (((x45.2.2.1.length : Nat) : Int) - 1)).toNat), x45.2.2.2)).length) (c54_0), Value.slice q38_A8 ((((settleD d0 (min d1 ((d0.2.2.2.2.2.2.length : Nat) : Int)).toNat).2.2.2.2.2.1).2.2.2).length) (q38_c8), Value.slice (some ⟨gg45, oo45, none⟩) (((settleD d0 (min d1 ((d0.2.2.2.2.2.2.length : Nat) : Int)).toNat).2.2.2.2.2.2).length) (q38_c9)]) 144 rfl rfl (.inr ⟨tk27, rfl⟩) rfl rfl rfl rfl rfl ?_
                refine VO.k8 0 1 2 6 7 8 11 49 ?_
                refine outN ?_
                refine VC.rs ?_
                refine VO.mv ?_
                refine VO.mv ?_
                refine VO.mv ?_
                refine VO.mv ?_
                refine VO.y rfl (.nilp rfl) ?_
                refine VO.y rfl (.fa rfl tst58 rfl) ?_
                refine VO.store (k := 1) (c' := [Value.bool ((settleD d0 (min d1 ((d0.2.2.2.2.2.2.length : Nat) : Int)).toNat).1), Value.bool ((settleD d0 (min d1 ((d0.2.2.2.2.2.2.length : Nat) : Int)).toNat).2.1), Value.bool ((settleD d0 (min d1 ((d0.2.2.2.2.2.2.length : Nat) : Int)).toNat).2.2.1), Value.int .i64 ((settleD d0 (min d1 ((d0.2.2.2.2.2.2.length : Nat) : Int)).toNat).2.2.2.1), Value.int .i64 ((settleD d0 (min d1 ((d0.2.2.2.2.2.2.length : Nat) : Int)).toNat).2.2.2.2.1), Value.slice q38_A5 ((((settleD d0 (min d1 ((d0.2.2.2.2.2.2.length : Nat) : Int)).toNat).2.2.2.2.2.1).1).length) (q38_c5), Value.slice q38_A6 ((((settleD d0 (min d1 ((d0.2.2.2.2.2.2.length : Nat) : Int)).toNat).2.2.2.2.2.1).2.1).length) (q38_c6), Value.slice A54_0 ((doneB (((settleD d0 (min d1 ((d0.2.2.2.2.2.2.length : Nat) : Int)).toNat).2.2.2.2.2.1).2.2.1) (x45.1, x45.2.1, (x45.2.2.1).take ((min d2 (((x45.2.2.1.length : Nat) : Int) - 1)).toNat), x45.2.2.2)).length) (c54_0), Value.slice q38_A8 ((((settleD d0 (min d1 ((d0.2.2.2.2.2.2.length : Nat) : Int)).toNat).2.2.2.2.2.1).2.2.2).length) (q38_c8), Value.slice none (0) (0)]) 144 rfl rfl (.inr ⟨tk56, rfl⟩) rfl rfl rfl rfl rfl ?_
                refine VO.y rfl (.nilp rfl) ?_
                refine VO.y rfl (.fa rfl tst58 rfl) ?_
                refine VO.store (k := 1) (c' := [Value.bool ((settleD d0 (min d1 ((d0.2.2.2.2.2.2.length : Nat) : Int)).toNat).1), Value.bool false, Value.bool ((settleD d0 (min d1 ((d0.2.2.2.2.2.2.length : Nat) : Int)).toNat).2.2.1), Value.int .i64 ((settleD d0 (min d1 ((d0.2.2.2.2.2.2.length : Nat) : Int)).toNat).2.2.2.1), Value.int .i64 ((settleD d0 (min d1 ((d0.2.2.2.2.2.2.length : Nat) : Int)).toNat).2.2.2.2.1), Value.slice q38_A5 ((((settleD d0 (min d1 ((d0.2.2.2.2.2.2.length : Nat) : Int)).toNat).2.2.2.2.2.1).1).length) (q38_c5), Value.slice q38_A6 ((((settleD d0 (min d1 ((d0.2.2.2.2.2.2.length : Nat) : Int)).toNat).2.2.2.2.2.1).2.1).length) (q38_c6), Value.slice A54_0 ((doneB (((settleD d0 (min d1 ((d0.2.2.2.2.2.2.length : Nat) : Int)).toNat).2.2.2.2.2.1).2.2.1) (x45.1, x45.2.1, (x45.2.2.1).take ((min d2 (((x45.2.2.1.length : Nat) : Int) - 1)).toNat), x45.2.2.2)).length) (c54_0), Value.slice q38_A8 ((((settleD d0 (min d1 ((d0.2.2.2.2.2.2.length : Nat) : Int)).toNat).2.2.2.2.2.1).2.2.2).length) (q38_c8), Value.slice none (0) (0)]) 144 rfl rfl (.inr ⟨tk4, rfl⟩) rfl rfl rfl rfl rfl ?_
                refine VO.y rfl (.nilp rfl) ?_
                refine VO.y rfl (.fa rfl tst58 rfl) ?_
                refine VO.store (k := 1) (c' := [Value.bool ((settleD d0 (min d1 ((d0.2.2.2.2.2.2.length : Nat) : Int)).toNat).1), Value.bool false, Value.bool false, Value.int .i64 ((settleD d0 (min d1 ((d0.2.2.2.2.2.2.length : Nat) : Int)).toNat).2.2.2.1), Value.int .i64 ((settleD d0 (min d1 ((d0.2.2.2.2.2.2.length : Nat) : Int)).toNat).2.2.2.2.1), Value.slice q38_A5 ((((settleD d0 (min d1 ((d0.2.2.2.2.2.2.length : Nat) : Int)).toNat).2.2.2.2.2.1).1).length) (q38_c5), Value.slice q38_A6 ((((settleD d0 (min d1 ((d0.2.2.2.2.2.2.length : Nat) : Int)).toNat).2.2.2.2.2.1).2.1).length) (q38_c6), Value.slice A54_0 ((doneB (((settleD d0 (min d1 ((d0.2.2.2.2.2.2.length : Nat) : Int)).toNat).2.2.2.2.2.1).2.2.1) (x45.1, x45.2.1, (x45.2.2.1).take ((min d2 (((x45.2.2.1.length : Nat) : Int) - 1)).toNat), x45.2.2.2)).length) (c54_0), Value.slice q38_A8 ((((settleD d0 (min d1 ((d0.2.2.2.2.2.2.length : Nat) : Int)).toNat).2.2.2.2.2.1).2.2.2).length) (q38_c8), Value.slice none (0) (0)]) 144 rfl rfl (.inr ⟨tk4, rfl⟩) rfl rfl rfl rfl rfl ?_
                refine VO.y rfl (.nilp rfl) ?_
                refine VO.y rfl (.fa rfl tst58 rfl) ?_
                refine VO.store (k := 1) (c' := [Value.bool ((settleD d0 (min d1 ((d0.2.2.2.2.2.2.length : Nat) : Int)).toNat).1), Value.bool false, Value.bool false, Value.int .i64 (0), Value.int .i64 ((settleD d0 (min d1 ((d0.2.2.2.2.2.2.length : Nat) : Int)).toNat).2.2.2.2.1), Value.slice q38_A5 ((((settleD d0 (min d1 ((d0.2.2.2.2.2.2.length : Nat) : Int)).toNat).2.2.2.2.2.1).1).length) (q38_c5), Value.slice q38_A6 ((((settleD d0 (min d1 ((d0.2.2.2.2.2.2.length : Nat) : Int)).toNat).2.2.2.2.2.1).2.1).length) (q38_c6), Value.slice A54_0 ((doneB (((settleD d0 (min d1 ((d0.2.2.2.2.2.2.length : Nat) : Int)).toNat).2.2.2.2.2.1).2.2.1) (x45.1, x45.2.1, (x45.2.2.1).take ((min d2 (((x45.2.2.1.length : Nat) : Int) - 1)).toNat), x45.2.2.2)).length) (c54_0), Value.slice q38_A8 ((((settleD d0 (min d1 ((d0.2.2.2.2.2.2.length : Nat) : Int)).toNat).2.2.2.2.2.1).2.2.2).length) (q38_c8), Value.slice none (0) (0)]) 144 rfl rfl (.inr ⟨tk3, rfl⟩) rfl rfl rfl rfl rfl ?_
                refine VO.gather (l := [mone g0 (.cells [Value.bool ((settleD d0 (min d1 ((d0.2.2.2.2.2.2.length : Nat) : Int)).toNat).1), Value.bool false, Value.bool false, Value.int .i64 (0), Value.int .i64 ((settleD d0 (min d1 ((d0.2.2.2.2.2.2.length : Nat) : Int)).toNat).2.2.2.2.1), Value.slice q38_A5 ((((settleD d0 (min d1 ((d0.2.2.2.2.2.2.length : Nat) : Int)).toNat).2.2.2.2.2.1).1).length) (q38_c5), Value.slice q38_A6 ((((settleD d0 (min d1 ((d0.2.2.2.2.2.2.length : Nat) : Int)).toNat).2.2.2.2.2.1).2.1).length) (q38_c6), Value.slice A54_0 ((doneB (((settleD d0 (min d1 ((d0.2.2.2.2.2.2.length : Nat) : Int)).toNat).2.2.2.2.2.1).2.2.1) (x45.1, x45.2.1, (x45.2.2.1).take ((min d2 (((x45.2.2.1.length : Nat) : Int) - 1)).toNat), x45.2.2.2)).length) (c54_0), Value.slice q38_A8 ((((settleD d0 (min d1 ((d0.2.2.2.2.2.2.length : Nat) : Int)).toNat).2.2.2.2.2.1).2.2.2).length) (q38_c8), Value.slice none (0) (0)].toArray q38_E (0, 0)), q38_n5, q38_n6, m54, q38_n8]) 155 [144, 139, 140, 141, 142] rfl (fun hg55 => ?_)
                have ho55 : Ow (.ptr TdiskDisk) (muns [mone g0 (.cells [Value.bool ((settleD d0 (min d1 ((d0.2.2.2.2.2.2.length : Nat) : Int)).toNat).1), Value.bool false, Value.bool false, Value.int .i64 (0), Value.int .i64 ((settleD d0 (min d1 ((d0.2.2.2.2.2.2.length : Nat) : Int)).toNat).2.2.2.2.1), Value.slice q38_A5 ((((settleD d0 (min d1 ((d0.2.2.2.2.2.2.length : Nat) : Int)).toNat).2.2.2.2.2.1).1).length) (q38_c5), Value.slice q38_A6 ((((settleD d0 (min d1 ((d0.2.2.2.2.2.2.length : Nat) : Int)).toNat).2.2.2.2.2.1).2.1).length) (q38_c6), Value.slice A54_0 ((doneB (((settleD d0 (min d1 ((d0.2.2.2.2.2.2.length : Nat) : Int)).toNat).2.2.2.2.2.1).2.2.1) (x45.1, x45.2.1, (x45.2.2.1).take ((min d2 (((x45.2.2.1.length : Nat) : Int) - 1)).toNat), x45.2.2.2)).length) (c54_0), Value.slice q38_A8 ((((settleD d0 (min d1 ((d0.2.2.2.2.2.2.length : Nat) : Int)).toNat).2.2.2.2.2.1).2.2.2).length) (q38_c8), Value.slice none (0) (0)].toArray q38_E (0, 0)), q38_n5, q38_n6, m54, q38_n8]) [.pointer (some ⟨g0, 0, none⟩)] (g0, ((settleD d0 (min d1 ((d0.2.2.2.2.2.2.length : Nat) : Int)).toNat).1, false, false, 0, (settleD d0 (min d1 ((d0.2.2.2.2.2.2.length : Nat) : Int)).toNat).2.2.2.2.1, (((settleD d0 (min d1 ((d0.2.2.2.2.2.2.length : Nat) : Int)).toNat).2.2.2.2.2.1).1, ((settleD d0 (min d1 ((d0.2.2.2.2.2.2.length : Nat) : Int)).toNat).2.2.2.2.2.1).2.1, doneB (((settleD d0 (min d1 ((d0.2.2.2.2.2.2.length : Nat) : Int)).toNat).2.2.2.2.2.1).2.2.1) (x45.1, x45.2.1, (x45.2.2.1).take ((min d2 (((x45.2.2.1.length : Nat) : Int) - 1)).toNat), x45.2.2.2), ((settleD d0 (min d1 ((d0.2.2.2.2.2.2.length : Nat) : Int)).toNat).2.2.2.2.2.1).2.2.2), [])) := (mkP_diskDisk ((settleD d0 (min d1 ((d0.2.2.2.2.2.2.length : Nat) : Int)).toNat).1) false false 0 ((settleD d0 (min d1 ((d0.2.2.2.2.2.2.length : Nat) : Int)).toNat).2.2.2.2.1) (((settleD d0 (min d1 ((d0.2.2.2.2.2.2.length : Nat) : Int)).toNat).2.2.2.2.2.1).1) (((settleD d0 (min d1 ((d0.2.2.2.2.2.2.length : Nat) : Int)).toNat).2.2.2.2.2.1).2.1) (doneB (((settleD d0 (min d1 ((d0.2.2.2.2.2.2.length : Nat) : Int)).toNat).2.2.2.2.2.1).2.2.1) (x45.1, x45.2.1, (x45.2.2.1).take ((min d2 (((x45.2.2.1.length : Nat) : Int) - 1)).toNat), x45.2.2.2)) (((settleD d0 (min d1 ((d0.2.2.2.2.2.2.length : Nat) : Int)).toNat).2.2.2.2.2.1).2.2.2) [] (Seps.nilAt 5 hg55) (by simp only [inK]; (exact fin2_dStart_ok)) (by simp only [inK]; (exact fin2_dStart_ok)) (OwnL.ow (Ow.ownl q38_5 rfl mnil) rfl) (OwnL.ow (Ow.ownl q38_6 rfl mnil) rfl) (OwnL.ow (Ow.ownl f54_0 rfl mnil) rfl) (OwnL.ow (Ow.ownl q38_8 rfl mnil) rfl) (Ow.nil _ _))
                refine VO.keep [155, 147, 143, 0] [(155, muns [mone g0 (.cells [Value.bool ((settleD d0 (min d1 ((d0.2.2.2.2.2.2.length : Nat) : Int)).toNat).1), Value.bool false, Value.bool false, Value.int .i64 (0), Value.int .i64 ((settleD d0 (min d1 ((d0.2.2.2.2.2.2.length : Nat) : Int)).toNat).2.2.2.2.1), Value.slice q38_A5 ((((settleD d0 (min d1 ((d0.2.2.2.2.2.2.length : Nat) : Int)).toNat).2.2.2.2.2.1).1).length) (q38_c5), Value.slice q38_A6 ((((settleD d0 (min d1 ((d0.2.2.2.2.2.2.length : Nat) : Int)).toNat).2.2.2.2.2.1).2.1).length) (q38_c6), Value.slice A54_0 ((doneB (((settleD d0 (min d1 ((d0.2.2.2.2.2.2.length : Nat) : Int)).toNat).2.2.2.2.2.1).2.2.1) (x45.1, x45.2.1, (x45.2.2.1).take ((min d2 (((x45.2.2.1.length : Nat) : Int) - 1)).toNat), x45.2.2.2)).length) (c54_0), Value.slice q38_A8 ((((settleD d0 (min d1 ((d0.2.2.2.2.2.2.length : Nat) : Int)).toNat).2.2.2.2.2.1).2.2.2).length) (q38_c8), Value.slice none (0) (0)].toArray q38_E (0, 0)), q38_n5, q38_n6, m54, q38_n8]), (147, mone g46 (.cells [Value.int .i64 (x45.1), Value.int .i64 (x45.2.1), Value.slice q45_A2 ((min d2 (((x45.2.2.1.length : Nat) : Int) - 1)).toNat) (q45_c2), Value.int .i64 (x45.2.2.2)].toArray 64 (0, 0))), (143, q38_n9), (0, mout (wm W) (m0))] (by kernel_rfl) ?_
                refine VO.k8 0 1 2 6 7 8 11 49 ?_
                refine VC.rs ?_
                refine VO.as ?_
                refine VO.k8 0 1 2 6 7 8 11 49 ?_
                refine VC.ret ?_
                refine ⟨_, _, res_run (rs := [.tmp 6]) rfl (.tmp rfl .nil), fun W_ hI => out_of (l := [muns [mone g0 (.cells [Value.bool ((settleD d0 (min d1 ((d0.2.2.2.2.2.2.length : Nat) : Int)).toNat).1), Value.bool false, Value.bool false, Value.int .i64 (0), Value.int .i64 ((settleD d0 (min d1 ((d0.2.2.2.2.2.2.length : Nat) : Int)).toNat).2.2.2.2.1), Value.slice q38_A5 ((((settleD d0 (min d1 ((d0.2.2.2.2.2.2.length : Nat) : Int)).toNat).2.2.2.2.2.1).1).length) (q38_c5), Value.slice q38_A6 ((((settleD d0 (min d1 ((d0.2.2.2.2.2.2.length : Nat) : Int)).toNat).2.2.2.2.2.1).2.1).length) (q38_c6), Value.slice A54_0 ((doneB (((settleD d0 (min d1 ((d0.2.2.2.2.2.2.length : Nat) : Int)).toNat).2.2.2.2.2.1).2.2.1) (x45.1, x45.2.1, (x45.2.2.1).take ((min d2 (((x45.2.2.1.length : Nat) : Int) - 1)).toNat), x45.2.2.2)).length) (c54_0), Value.slice q38_A8 ((((settleD d0 (min d1 ((d0.2.2.2.2.2.2.length : Nat) : Int)).toNat).2.2.2.2.2.1).2.2.2).length) (q38_c8), Value.slice none (0) (0)].toArray q38_E (0, 0)), q38_n5, q38_n6, m54, q38_n8]]) hI [155] rfl rfl (mle_refl _) (fun hS_ => ?_)⟩
                dsimp only [packV]
                have hm0_ : ((dStart d0 d1 d2).1 : DdiskDisk) = ((settleD d0 (min d1 ((d0.2.2.2.2.2.2.length : Nat) : Int)).toNat).1, false, false, 0, (settleD d0 (min d1 ((d0.2.2.2.2.2.2.length : Nat) : Int)).toNat).2.2.2.2.1, (((settleD d0 (min d1 ((d0.2.2.2.2.2.2.length : Nat) : Int)).toNat).2.2.2.2.2.1).1, ((settleD d0 (min d1 ((d0.2.2.2.2.2.2.length : Nat) : Int)).toNat).2.2.2.2.2.1).2.1, doneB (((settleD d0 (min d1 ((d0.2.2.2.2.2.2.length : Nat) : Int)).toNat).2.2.2.2.2.1).2.2.1) (x45.1, x45.2.1, (x45.2.2.1).take ((min d2 (((x45.2.2.1.length : Nat) : Int) - 1)).toNat), x45.2.2.2), ((settleD d0 (min d1 ((d0.2.2.2.2.2.2.length : Nat) : Int)).toNat).2.2.2.2.2.1).2.2.2), []) := by first | rfl | (exact fin0_dStart_ok)
                refine ⟨?_, ?_⟩
                rotate_left
                · rw [hm0_]; exact (Ow.up ho55 (hS_.1 _ (.head _)))
                all_goals (first | rfl | (exact fin0_dStart_ok))
              · -- FFFFTT3
                refine VD.y rfl rfl (.inl rfl) (.ixa (i := 3) (o := 8) rfl rfl tar28 hi49 rfl rfl) ?_
                refine VD.y rfl rfl (.inl rfl) (.ld1 144 rfl tk27 rfl (cellsAt_one rfl rfl)) ?_
                refine VD.y rfl rfl (.inl rfl) (.ldA 147 rfl tk64 rfl (cellsAt_one rfl rfl)) ?_
                refine VD.y rfl rfl (.inl rfl) (.nilp rfl) ?_
                refine VD.y rfl rfl (.inl rfl) (.fa rfl tst58 rfl) ?_
                refine VD.call 142 rfl rfl (.inl rfl) fnOk40 rfl rfl (fun _ _ h => h.sub [147, 144, 143, 0]) (fun W hW => dDone_ok W (hW.at (i := 142) rfl) (OwnL.ow (Ow.ownl q38_8 rfl mnil) rfl) (mk_diskstep (m := mout (wm W) (q38_n8)) x45.1 x45.2.1 ((x45.2.2.1).take ((min d2 (((x45.2.2.1.length : Nat) : Int) - 1)).toNat)) x45.2.2.2 (by simp only [inK]; (exact fin2_dStart_ok)) (by simp only [inK]; (exact fin2_dStart_ok)) (Rd.mono hs48 (hW.out (i := 142) (j := 143) rfl rfl)) (by simp only [inK]; (exact fin2_dStart_ok))) (by intro h_; omega) (by (have h_ := (start_good (by assumption) ‹_[0]? = some _›).2.2; first | (rw [getF0 ‹_ = (0 : Int)›] at h_; simp only [List.length_take]; omega) | (rw [getF1 ‹_ = (1 : Int)›] at h_; simp only [List.length_take]; omega) | (rw [getF2 ‹_ = (2 : Int)›] at h_; simp only [List.length_take]; omega) | (rw [getF3 ‹_ = (3 : Int)›] at h_; simp only [List.length_take]; omega)))) (fun v56 m56 hv56 => ?_)
                try dsimp only at hv56
                obtain ⟨s56_0, rfl, f56_0⟩ := hv56
                obtain ⟨A56_0, c56_0, eq56_0, l56_0, k56_0⟩ := f56_0.slice
                subst eq56_0
                simp only [maxLen] at k56_0
                refine VD.nil rfl ?_ rfl
                refine VO.y rfl (.ixa (i := 3) (o := 8) rfl rfl tar28 hi49 rfl rfl) ?_
                refine VO.store (k := 1) (c' := [Value.bool ((settleD d0 (min d1 ((d0.2.2.2.2.2.2.length : Nat) : Int)).toNat).1), Value.bool ((settleD d0 (min d1 ((d0.2.2.2.2.2.2.length : Nat) : Int)).toNat).2.1), Value.bool ((settleD d0 (min d1 ((d0.2.2.2.2.2.2.length : Nat) : Int)).toNat).2.2.1), Value.int .i64 ((settleD d0 (min d1 ((d0.2.2.2.2.2.2.length : Nat) : Int)).toNat).2.2.2.1), Value.int .i64 ((settleD d0 (min d1 ((d0.2.2.2.2.2.2.length : Nat) : Int)).toNat).2.2.2.2.1), Value.slice q38_A5 ((((settleD d0 (min d1 ((d0.2.2.2.2.2.2.length : Nat) : Int)).toNat).2.2.2.2.2.1).1).length) (q38_c5), Value.slice q38_A6 ((((settleD d0 (min d1 ((d0.2.2.2.2.2.2.length : Nat) : Int)).toNat).2.2.2.2.2.1).2.1).length) (q38_c6), Value.slice q38_A7 ((((settleD d0 (min d1 ((d0.2.2.2.2.2.2.length : Nat) : Int)).toNat).2.2.2.2.2.1).2.2.1).length) (q38_c7), Value.slice A56_0 ((doneB (((settleD d0 (min d1 ((d0.2.2.2.2.2.2.length : Nat) : Int)).toNat).2.2.2.2.2.1).2.2.2) (x45.1, x45.2.1, (x45.2.2.1).take ((min d2 (((x45.2.2.1.length : Nat) : Int) - 1)).toNat), x45.2.2.2)).length) (c56_0), Value.slice (some ⟨gg45, oo45, none⟩) (((settleD d0 (min d1 ((d0.2.2.2.2.2.2.length : Nat) : Int)).toNat).2.2.2.2.2.2).length) (q38_c9)]) 144 rfl rfl (.inr ⟨tk27, rfl⟩) rfl rfl rfl rfl rfl ?_
                refine VO.k8 0 1 2 6 7 8 11 49 ?_
                refine outN ?_
                refine VC.rs ?_
                refine VO.mv ?_
                refine VO.mv ?_
                refine VO.mv ?_
                refine VO.mv ?_
                refine VO.y rfl (.nilp rfl) ?_
                refine VO.y rfl (.fa rfl tst58 rfl) ?_
                refine VO.store (k := 1) (c' := [Value.bool ((settleD d0 (min d1 ((d0.2.2.2.2.2.2.length : Nat) : Int)).toNat).1), Value.bool ((settleD d0 (min d1 ((d0.2.2.2.2.2.2.length : Nat) : Int)).toNat).2.1), Value.bool ((settleD d0 (min d1 ((d0.2.2.2.2.2.2.length : Nat) : Int)).toNat).2.2.1), Value.int .i64 ((settleD d0 (min d1 ((d0.2.2.2.2.2.2.length : Nat) : Int)).toNat).2.2.2.1), Value.int .i64 ((settleD d0 (min d1 ((d0.2.2.2.2.2.2.length : Nat) : Int)).toNat).2.2.2.2.1), Value.slice q38_A5 ((((settleD d0 (min d1 ((d0.2.2.2.2.2.2.length : Nat) : Int)).toNat).2.2.2.2.2.1).1).length) (q38_c5), Value.slice q38_A6 ((((settleD d0 (min d1 ((d0.2.2.2.2.2.2.length : Nat) : Int)).toNat).2.2.2.2.2.1).2.1).length) (q38_c6), Value.slice q38_A7 ((((settleD d0 (min d1 ((d0.2.2.2.2.2.2.length : Nat) : Int)).toNat).2.2.2.2.2.1).2.2.1).length) (q38_c7), Value.slice A56_0 ((doneB (((settleD d0 (min d1 ((d0.2.2.2.2.2.2.length : Nat) : Int)).toNat).2.2.2.2.2.1).2.2.2) (x45.1, x45.2.1, (x45.2.2.1).take ((min d2 (((x45.2.2.1.length : Nat) : Int) - 1)).toNat), x45.2.2.2)).length) (c56_0), Value.slice none (0) (0)]) 144 rfl rfl (.inr ⟨tk56, rfl⟩) rfl rfl rfl rfl rfl ?_
                refine VO.y rfl (.nilp rfl) ?_
                refine VO.y rfl (.fa rfl tst58 rfl) ?_
                refine VO.store (k := 1) (c' := [Value.bool ((settleD d0 (min d1 ((d0.2.2.2.2.2.2.length : Nat) : Int)).toNat).1), Value.bool false, Value.bool ((settleD d0 (min d1 ((d0.2.2.2.2.2.2.length : Nat) : Int)).toNat).2.2.1), Value.int .i64 ((settleD d0 (min d1 ((d0.2.2.2.2.2.2.length : Nat) : Int)).toNat).2.2.2.1), Value.int .i64 ((settleD d0 (min d1 ((d0.2.2.2.2.2.2.length : Nat) : Int)).toNat).2.2.2.2.1), Value.slice q38_A5 ((((settleD d0 (min d1 ((d0.2.2.2.2.2.2.length : Nat) : Int)).toNat).2.2.2.2.2.1).1).length) (q38_c5), Value.slice q38_A6 ((((settleD d0 (min d1 ((d0.2.2.2.2.2.2.length : Nat) : Int)).toNat).2.2.2.2.2.1).2.1).length) (q38_c6), Value.slice q38_A7 ((((settleD d0 (min d1 ((d0.2.2.2.2.2.2.length : Nat) : Int)).toNat).2.2.2.2.2.1).2.2.1).length) (q38_c7), Value.slice A56_0 ((doneB (((settleD d0 (min d1 ((d0.2.2.2.2.2.2.length : Nat) : Int)).toNat).2.2.2.2.2.1).2.2.2) (x45.1, x45.2.1, (x45.2.2.1).take ((min d2 (((x45.2.2.1.length : Nat) : Int) - 1)).toNat), x45.2.2.2)).length) (c56_0), Value.slice none (0) (0)]) 144 rfl rfl (.inr ⟨tk4, rfl⟩) rfl rfl rfl rfl rfl ?_
                refine VO.y rfl (.nilp rfl) ?_
                refine VO.y rfl (.fa rfl tst58 rfl) ?_
                refine VO.store (k := 1) (c' := [Value.bool ((settleD d0 (min d1 ((d0.2.2.2.2.2.2.length : Nat) : Int)).toNat).1), Value.bool false, Value.bool false, Value.int .i64 ((settleD d0 (min d1 ((d0.2.2.2.2.2.2.length : Nat) : Int)).toNat).2.2.2.1), Value.int .i64 ((settleD d0 (min d1 ((d0.2.2.2.2.2.2.length : Nat) : Int)).toNat).2.2.2.2.1), Value.slice q38_A5 ((((settleD d0 (min d1 ((d0.2.2.2.2.2.2.length : Nat) : Int)).toNat).2.2.2.2.2.1).1).length) (q38_c5), Value.slice q38_A6 ((((settleD d0 (min d1 ((d0.2.2.2.2.2.2.length : Nat) : Int)).toNat).2.2.2.2.2.1).2.1).length) (q38_c6), Value.slice q38_A7 ((((settleD d0 (min d1 ((d0.2.2.2.2.2.2.length : Nat) : Int)).toNat).2.2.2.2.2.1).2.2.1).length) (q38_c7), Value.slice A56_0 ((doneB (((settleD d0 (min d1 ((d0.2.2.2.2.2.2.length : Nat) : Int)).toNat).2.2.2.2.2.1).2.2.2) (x45.1, x45.2.1, (x45.2.2.1).take ((min d2 (((x45.2.2.1.length : Nat) : Int) - 1)).toNat), x45.2.2.2)).length) (c56_0), Value.slice none (0) (0)]) 144 rfl rfl (.inr ⟨tk4, rfl⟩) rfl rfl rfl rfl rfl ?_
                refine VO.y rfl (.nilp rfl) ?_
                refine VO.y rfl (.fa rfl tst58 rfl) ?_
                refine VO.store (k := 1) (c' := [Value.bool ((settleD d0 (min d1 ((d0.2.2.2.2.2.2.length : Nat) : Int)).toNat).1), Value.bool false, Value.bool false, Value.int .i64 (0), Value.int .i64 ((settleD d0 (min d1 ((d0.2.2.2.2.2.2.length : Nat) : Int)).toNat).2.2.2.2.1), Value.slice q38_A5 ((((settleD d0 (min d1 ((d0.2.2.2.2.2.2.length : Nat) : Int)).toNat).2.2.2.2.2.1).1).length) (q38_c5), Value.slice q38_A6 ((((settleD d0 (min d1 ((d0.2.2.2.2.2.2.length : Nat) : Int)).toNat).2.2.2.2.2.1).2.1).length) (q38_c6), Value.slice q38_A7 ((((settleD d0 (min d1 ((d0.2.2.2.2.2.2.length : Nat) : Int)).toNat).2.2.2.2.2.1).2.2.1).length) (q38_c7), Value.slice A56_0 ((doneB (((settleD d0 (min d1 ((d0.2.2.2.2.2.2.length : Nat) : Int)).toNat).2.2.2.2.2.1).2.2.2) (x45.1, x45.2.1, (x45.2.2.1).take ((min d2 (((x45.2.2.1.length : Nat) : Int) - 1)).toNat), x45.2.2.2)).length) (c56_0), Value.slice none (0) (0)]) 144 rfl rfl (.inr ⟨tk3, rfl⟩) rfl rfl rfl rfl rfl ?_
                refine VO.gather (l := [mone g0 (.cells [Value.bool ((settleD d0 (min d1 ((d0.2.2.2.2.2.2.length : Nat) : Int)).toNat).1), Value.bool false, Value.bool false, Value.int .i64 (0), Value.int .i64 ((settleD d0 (min d1 ((d0.2.2.2.2.2.2.length : Nat) : Int)).toNat).2.2.2.2.1), Value.slice q38_A5 ((((settleD d0 (min d1 ((d0.2.2.2.2.2.2.length : Nat) : Int)).toNat).2.2.2.2.2.1).1).length) (q38_c5), Value.slice q38_A6 ((((settleD d0 (min d1 ((d0.2.2.2.2.2.2.length : Nat) : Int)).toNat).2.2.2.2.2.1).2.1).length) (q38_c6), Value.slice q38_A7 ((((settleD d0 (min d1 ((d0.2.2.2.2.2.2.length : Nat) : Int)).toNat).2.2.2.2.2.1).2.2.1).length) (q38_c7), Value.slice A56_0 ((doneB (((settleD d0 (min d1 ((d0.2.2.2.2.2.2.length : Nat) : Int)).toNat).2.2.2.2.2.1).2.2.2) (x45.1, x45.2.1, (x45.2.2.1).take ((min d2 (((x45.2.2.1.length : Nat) : Int) - 1)).toNat), x45.2.2.2)).length) (c56_0), Value.slice none (0) (0)].toArray q38_E (0, 0)), q38_n5, q38_n6, q38_n7, m56]) 157 [144, 139, 140, 141, 142] rfl (fun hg57 => ?_)
                have ho57 : Ow (.ptr TdiskDisk) (muns [mone g0 (.cells [Value.bool ((settleD d0 (min d1 ((d0.2.2.2.2.2.2.length : Nat) : Int)).toNat).1), Value.bool false, Value.bool false, Value.int .i64 (0), Value.int .i64 ((settleD d0 (min d1 ((d0.2.2.2.2.2.2.length : Nat) : Int)).toNat).2.2.2.2.1), Value.slice q38_A5 ((((settleD d0 (min d1 ((d0.2.2.2.2.2.2.length : Nat) : Int)).toNat).2.2.2.2.2.1).1).length) (q38_c5), Value.slice q38_A6 ((((settleD d0 (min d1 ((d0.2.2.2.2.2.2.length : Nat) : Int)).toNat).2.2.2.2.2.1).2.1).length) (q38_c6), Value.slice q38_A7 ((((settleD d0 (min d1 ((d0.2.2.2.2.2.2.length : Nat) : Int)).toNat).2.2.2.2.2.1).2.2.1).length) (q38_c7), Value.slice A56_0 ((doneB (((settleD d0 (min d1 ((d0.2.2.2.2.2.2.length : Nat) : Int)).toNat).2.2.2.2.2.1).2.2.2) (x45.1, x45.2.1, (x45.2.2.1).take ((min d2 (((x45.2.2.1.length : Nat) : Int) - 1)).toNat), x45.2.2.2)).length) (c56_0), Value.slice none (0) (0)].toArray q38_E (0, 0)), q38_n5, q38_n6, q38_n7, m56]) [.pointer (some ⟨g0, 0, none⟩)] (g0, ((settleD d0 (min d1 ((d0.2.2.2.2.2.2.length : Nat) : Int)).toNat).1, false, false, 0, (settleD d0 (min d1 ((d0.2.2.2.2.2.2.length : Nat) : Int)).toNat).2.2.2.2.1, (((settleD d0 (min d1 ((d0.2.2.2.2.2.2.length : Nat) : Int)).toNat).2.2.2.2.2.1).1, ((settleD d0 (min d1 ((d0.2.2.2.2.2.2.length : Nat) : Int)).toNat).2.2.2.2.2.1).2.1, ((settleD d0 (min d1 ((d0.2.2.2.2.2.2.length : Nat) : Int)).toNat).2.2.2.2.2.1).2.2.1, doneB (((settleD d0 (min d1 ((d0.2.2.2.2.2.2.length : Nat) : Int)).toNat).2.2.2.2.2.1).2.2.2) (x45.1, x45.2.1, (x45.2.2.1).take ((min d2 (((x45.2.2.1.length : Nat) : Int) - 1)).toNat), x45.2.2.2)), [])) := (mkP_diskDisk ((settleD d0 (min d1 ((d0.2.2.2.2.2.2.length : Nat) : Int)).toNat).1) false false 0 ((settleD d0 (min d1 ((d0.2.2.2.2.2.2.length : Nat) : Int)).toNat).2.2.2.2.1) (((settleD d0 (min d1 ((d0.2.2.2.2.2.2.length : Nat) : Int)).toNat).2.2.2.2.2.1).1) (((settleD d0 (min d1 ((d0.2.2.2.2.2.2.length : Nat) : Int)).toNat).2.2.2.2.2.1).2.1) (((settleD d0 (min d1 ((d0.2.2.2.2.2.2.length : Nat) : Int)).toNat).2.2.2.2.2.1).2.2.1) (doneB (((settleD d0 (min d1 ((d0.2.2.2.2.2.2.length : Nat) : Int)).toNat).2.2.2.2.2.1).2.2.2) (x45.1, x45.2.1, (x45.2.2.1).take ((min d2 (((x45.2.2.1.length : Nat) : Int) - 1)).toNat), x45.2.2.2)) [] (Seps.nilAt 5 hg57) (by simp only [inK]; (exact fin2_dStart_ok)) (by simp only [inK]; (exact fin2_dStart_ok)) (OwnL.ow (Ow.ownl q38_5 rfl mnil) rfl) (OwnL.ow (Ow.ownl q38_6 rfl mnil) rfl) (OwnL.ow (Ow.ownl q38_7 rfl mnil) rfl) (OwnL.ow (Ow.ownl f56_0 rfl mnil) rfl) (Ow.nil _ _))
                refine VO.keep [157, 147, 143, 0] [(157, muns [mone g0 (.cells [Value.bool ((settleD d0 (min d1 ((d0.2.2.2.2.2.2.length : Nat) : Int)).toNat).1), Value.bool false, Value.bool false, Value.int .i64 (0), Value.int .i64 ((settleD d0 (min d1 ((d0.2.2.2.2.2.2.length : Nat) : Int)).toNat).2.2.2.2.1), Value.slice q38_A5 ((((settleD d0 (min d1 ((d0.2.2.2.2.2.2.length : Nat) : Int)).toNat).2.2.2.2.2.1).1).length) (q38_c5), Value.slice q38_A6 ((((settleD d0 (min d1 ((d0.2.2.2.2.2.2.length : Nat) : Int)).toNat).2.2.2.2.2.1).2.1).length) (q38_c6), Value.slice q38_A7 ((((settleD d0 (min d1 ((d0.2.2.2.2.2.2.length : Nat) : Int)).toNat).2.2.2.2.2.1).2.2.1).length) (q38_c7), Value.slice A56_0 ((doneB (((settleD d0 (min d1 ((d0.2.2.2.2.2.2.length : Nat) : Int)).toNat).2.2.2.2.2.1).2.2.2) (x45.1, x45.2.1, (x45.2.2.1).take ((min d2 (((x45.2.2.1.length : Nat) : Int) - 1)).toNat), x45.2.2.2)).length) (c56_0), Value.slice none (0) (0)].toArray q38_E (0, 0)), q38_n5, q38_n6, q38_n7, m56]), (147, mone g46 (.cells [Value.int .i64 (x45.1), Value.int .i64 (x45.2.1), Value.slice q45_A2 ((min d2 (((x45.2.2.1.length : Nat) : Int) - 1)).toNat) (q45_c2), Value.int .i64 (x45.2.2.2)].toArray 64 (0, 0))), (143, q38_n9), (0, mout (wm W) (m0))] (by kernel_rfl) ?_
                refine VO.k8 0 1 2 6 7 8 11 49 ?_
                refine VC.rs ?_
                refine VO.as ?_
                refine VO.k8 0 1 2 6 7 8 11 49 ?_
                refine VC.ret ?_
                refine ⟨_, _, res_run (rs := [.tmp 6]) rfl (.tmp rfl .nil), fun W_ hI => out_of (l := [muns [mone g0 (.cells [Value.bool ((settleD d0 (min d1 ((d0.2.2.2.2.2.2.length : Nat) : Int)).toNat).1), Value.bool false, Value.bool false, Value.int .i64 (0), Value.int .i64 ((settleD d0 (min d1 ((d0.2.2.2.2.2.2.length : Nat) : Int)).toNat).2.2.2.2.1), Value.slice q38_A5 ((((settleD d0 (min d1 ((d0.2.2.2.2.2.2.length : Nat) : Int)).toNat).2.2.2.2.2.1).1).length) (q38_c5), Value.slice q38_A6 ((((settleD d0 (min d1 ((d0.2.2.2.2.2.2.length : Nat) : Int)).toNat).2.2.2.2.2.1).2.1).length) (q38_c6), Value.slice q38_A7 ((((settleD d0 (min d1 ((d0.2.2.2.2.2.2.length : Nat) : Int)).toNat).2.2.2.2.2.1).2.2.1).length) (q38_c7), Value.slice A56_0 ((doneB (((settleD d0 (min d1 ((d0.2.2.2.2.2.2.length : Nat) : Int)).toNat).2.2.2.2.2.1).2.2.2) (x45.1, x45.2.1, (x45.2.2.1).take ((min d2 (((x45.2.2.1.length : Nat) : Int) - 1)).toNat), x45.2.2.2)).length) (c56_0), Value.slice none (0) (0)].toArray q38_E (0, 0)), q38_n5, q38_n6, q38_n7, m56]]) hI [157] rfl rfl (mle_refl _) (fun hS_ => ?_)⟩
                dsimp only [packV]
                have hm0_ : ((dStart d0 d1 d2).1 : DdiskDisk) = ((settleD d0 (min d1 ((d0.2.2.2.2.2.2.length : Nat) : Int)).toNat).1, false, false, 0, (settleD d0 (min d1 ((d0.2.2.2.2.2.2.length : Nat) : Int)).toNat).2.2.2.2.1, (((settleD d0 (min d1 ((d0.2.2.2.2.2.2.length : Nat) : Int)).toNat).2.2.2.2.2.1).1, ((settleD d0 (min d1 ((d0.2.2.2.2.2.2.length : Nat) : Int)).toNat).2.2.2.2.2.1).2.1, ((settleD d0 (min d1 ((d0.2.2.2.2.2.2.length : Nat) : Int)).toNat).2.2.2.2.2.1).2.2.1, doneB (((settleD d0 (min d1 ((d0.2.2.2.2.2.2.length : Nat) : Int)).toNat).2.2.2.2.2.1).2.2.2) (x45.1, x45.2.1, (x45.2.2.1).take ((min d2 (((x45.2.2.1.length : Nat) : Int) - 1)).toNat), x45.2.2.2)), []) := by first | rfl | (exact fin0_dStart_ok)
                refine ⟨?_, ?_⟩
                rotate_left
                · rw [hm0_]; exact (Ow.up ho57 (hS_.1 _ (.head _)))
                all_goals (first | rfl | (exact fin0_dStart_ok))
            · -- FFFFTF
              refine VC.skip ?_
              refine outN ?_
              refine VC.rs ?_
              refine VO.mv ?_
              refine VO.mv ?_
              refine VO.mv ?_
              refine VO.mv ?_
              refine VO.y rfl (.nilp rfl) ?_
              refine VO.y rfl (.fa rfl tst58 rfl) ?_
              obtain ⟨q58_E, q58_A5, q58_c5, q58_A6, q58_c6, q58_A7, q58_c7, q58_A8, q58_c8, q58_A9, q58_c9, q58_n5, q58_n6, q58_n7, q58_n8, q58_n9, _, q58_S, q58_3, q58_4, q58_5, q58_6, q58_7, q58_8, q58_9⟩ := openP_diskDisk (x0 := (settleD d0 (min d1 ((d0.2.2.2.2.2.2.length : Nat) : Int)).toNat).1) (x1 := (settleD d0 (min d1 ((d0.2.2.2.2.2.2.length : Nat) : Int)).toNat).2.1) (x2 := (settleD d0 (min d1 ((d0.2.2.2.2.2.2.length : Nat) : Int)).toNat).2.2.1) (x3 := (settleD d0 (min d1 ((d0.2.2.2.2.2.2.length : Nat) : Int)).toNat).2.2.2.1) (x4 := (settleD d0 (min d1 ((d0.2.2.2.2.2.2.length : Nat) : Int)).toNat).2.2.2.2.1) (x5 := ((settleD d0 (min d1 ((d0.2.2.2.2.2.2.length : Nat) : Int)).toNat).2.2.2.2.2.1).1) (x6 := ((settleD d0 (min d1 ((d0.2.2.2.2.2.2.length : Nat) : Int)).toNat).2.2.2.2.2.1).2.1) (x7 := ((settleD d0 (min d1 ((d0.2.2.2.2.2.2.length : Nat) : Int)).toNat).2.2.2.2.2.1).2.2.1) (x8 := ((settleD d0 (min d1 ((d0.2.2.2.2.2.2.length : Nat) : Int)).toNat).2.2.2.2.2.1).2.2.2) (x9 := (settleD d0 (min d1 ((d0.2.2.2.2.2.2.length : Nat) : Int)).toNat).2.2.2.2.2.2) ho36
              simp only [inK] at q58_3
              simp only [inK] at q58_4
              have q58_r5 := Rd.room (q58_5.rd (mle_refl _))
              have q58_r6 := Rd.room (q58_6.rd (mle_refl _))
              have q58_r7 := Rd.room (q58_7.rd (mle_refl _))
              have q58_r8 := Rd.room (q58_8.rd (mle_refl _))
              have q58_r9 := Rd.room (q58_9.rd (mle_refl _))
              refine VO.inv _ (fun _ h => h.parts (i := 136) rfl q58_S [164, 159, 160, 161, 162, 163]) ?_
              refine VO.store (k := 1) (c' := [Value.bool ((settleD d0 (min d1 ((d0.2.2.2.2.2.2.length : Nat) : Int)).toNat).1), Value.bool ((settleD d0 (min d1 ((d0.2.2.2.2.2.2.length : Nat) : Int)).toNat).2.1), Value.bool ((settleD d0 (min d1 ((d0.2.2.2.2.2.2.length : Nat) : Int)).toNat).2.2.1), Value.int .i64 ((settleD d0 (min d1 ((d0.2.2.2.2.2.2.length : Nat) : Int)).toNat).2.2.2.1), Value.int .i64 ((settleD d0 (min d1 ((d0.2.2.2.2.2.2.length : Nat) : Int)).toNat).2.2.2.2.1), Value.slice q58_A5 ((((settleD d0 (min d1 ((d0.2.2.2.2.2.2.length : Nat) : Int)).toNat).2.2.2.2.2.1).1).length) (q58_c5), Value.slice q58_A6 ((((settleD d0 (min d1 ((d0.2.2.2.2.2.2.length : Nat) : Int)).toNat).2.2.2.2.2.1).2.1).length) (q58_c6), Value.slice q58_A7 ((((settleD d0 (min d1 ((d0.2.2.2.2.2.2.length : Nat) : Int)).toNat).2.2.2.2.2.1).2.2.1).length) (q58_c7), Value.slice q58_A8 ((((settleD d0 (min d1 ((d0.2.2.2.2.2.2.length : Nat) : Int)).toNat).2.2.2.2.2.1).2.2.2).length) (q58_c8), Value.slice none (0) (0)]) 164 rfl rfl (.inr ⟨tk56, rfl⟩) rfl rfl rfl rfl rfl ?_
              refine VO.y rfl (.nilp rfl) ?_
              refine VO.y rfl (.fa rfl tst58 rfl) ?_
              refine VO.store (k := 1) (c' := [Value.bool ((settleD d0 (min d1 ((d0.2.2.2.2.2.2.length : Nat) : Int)).toNat).1), Value.bool false, Value.bool ((settleD d0 (min d1 ((d0.2.2.2.2.2.2.length : Nat) : Int)).toNat).2.2.1), Value.int .i64 ((settleD d0 (min d1 ((d0.2.2.2.2.2.2.length : Nat) : Int)).toNat).2.2.2.1), Value.int .i64 ((settleD d0 (min d1 ((d0.2.2.2.2.2.2.length : Nat) : Int)).toNat).2.2.2.2.1), Value.slice q58_A5 ((((settleD d0 (min d1 ((d0.2.2.2.2.2.2.length : Nat) : Int)).toNat).2.2.2.2.2.1).1).length) (q58_c5), Value.slice q58_A6 ((((settleD d0 (min d1 ((d0.2.2.2.2.2.2.length : Nat) : Int)).toNat).2.2.2.2.2.1).2.1).length) (q58_c6), Value.slice q58_A7 ((((settleD d0 (min d1 ((d0.2.2.2.2.2.2.length : Nat) : Int)).toNat).2.2.2.2.2.1).2.2.1).length) (q58_c7), Value.slice q58_A8 ((((settleD d0 (min d1 ((d0.2.2.2.2.2.2.length : Nat) : Int)).toNat).2.2.2.2.2.1).2.2.2).length) (q58_c8), Value.slice none (0) (0)]) 164 rfl rfl (.inr ⟨tk4, rfl⟩) rfl rfl rfl rfl rfl ?_
              refine VO.y rfl (.nilp rfl) ?_
              refine VO.y rfl (.fa rfl tst58 rfl) ?_
              refine VO.store (k := 1) (c' := [Value.bool ((settleD d0 (min d1 ((d0.2.2.2.2.2.2.length : Nat) : Int)).toNat).1), Value.bool false, Value.bool false, Value.int .i64 ((settleD d0 (min d1 ((d0.2.2.2.2.2.2.length : Nat) : Int)).toNat).2.2.2.1), Value.int .i64 ((settleD d0 (min d1 ((d0.2.2.2.2.2.2.length : Nat) : Int)).toNat).2.2.2.2.1), Value.slice q58_A5 ((((settleD d0 (min d1 ((d0.2.2.2.2.2.2.length : Nat) : Int)).toNat).2.2.2.2.2.1).1).length) (q58_c5), Value.slice q58_A6 ((((settleD d0 (min d1 ((d0.2.2.2.2.2.2.length : Nat) : Int)).toNat).2.2.2.2.2.1).2.1).length) (q58_c6), Value.slice q58_A7 ((((settleD d0 (min d1 ((d0.2.2.2.2.2.2.length : Nat) : Int)).toNat).2.2.2.2.2.1).2.2.1).length) (q58_c7), Value.slice q58_A8 ((((settleD d0 (min d1 ((d0.2.2.2.2.2.2.length : Nat) : Int)).toNat).2.2.2.2.2.1).2.2.2).length) (q58_c8), Value.slice none (0) (0)]) 164 rfl rfl (.inr ⟨tk4, rfl⟩) rfl rfl rfl rfl rfl ?_
              refine VO.y rfl (.nilp rfl) ?_
              refine VO.y rfl (.fa rfl tst58 rfl) ?_
              refine VO.store (k := 1) (c' := [Value.bool ((settleD d0 (min d1 ((d0.2.2.2.2.2.2.length : Nat) : Int)).toNat).1), Value.bool false, Value.bool false, Value.int .i64 (0), Value.int .i64 ((settleD d0 (min d1 ((d0.2.2.2.2.2.2.length : Nat) : Int)).toNat).2.2.2.2.1), Value.slice q58_A5 ((((settleD d0 (min d1 ((d0.2.2.2.2.2.2.length : Nat) : Int)).toNat).2.2.2.2.2.1).1).length) (q58_c5), Value.slice q58_A6 ((((settleD d0 (min d1 ((d0.2.2.2.2.2.2.length : Nat) : Int)).toNat).2.2.2.2.2.1).2.1).length) (q58_c6), Value.slice q58_A7 ((((settleD d0 (min d1 ((d0.2.2.2.2.2.2.length : Nat) : Int)).toNat).2.2.2.2.2.1).2.2.1).length) (q58_c7), Value.slice q58_A8 ((((settleD d0 (min d1 ((d0.2.2.2.2.2.2.length : Nat) : Int)).toNat).2.2.2.2.2.1).2.2.2).length) (q58_c8), Value.slice none (0) (0)]) 164 rfl rfl (.inr ⟨tk3, rfl⟩) rfl rfl rfl rfl rfl ?_
              refine VO.gather (l := [mone g0 (.cells [Value.bool ((settleD d0 (min d1 ((d0.2.2.2.2.2.2.length : Nat) : Int)).toNat).1), Value.bool false, Value.bool false, Value.int .i64 (0), Value.int .i64 ((settleD d0 (min d1 ((d0.2.2.2.2.2.2.length : Nat) : Int)).toNat).2.2.2.2.1), Value.slice q58_A5 ((((settleD d0 (min d1 ((d0.2.2.2.2.2.2.length : Nat) : Int)).toNat).2.2.2.2.2.1).1).length) (q58_c5), Value.slice q58_A6 ((((settleD d0 (min d1 ((d0.2.2.2.2.2.2.length : Nat) : Int)).toNat).2.2.2.2.2.1).2.1).length) (q58_c6), Value.slice q58_A7 ((((settleD d0 (min d1 ((d0.2.2.2.2.2.2.length : Nat) : Int)).toNat).2.2.2.2.2.1).2.2.1).length) (q58_c7), Value.slice q58_A8 ((((settleD d0 (min d1 ((d0.2.2.2.2.2.2.length : Nat) : Int)).toNat).2.2.2.2.2.1).2.2.2).length) (q58_c8), Value.slice none (0) (0)].toArray q58_E (0, 0)), q58_n5, q58_n6, q58_n7, q58_n8]) 165 [164, 159, 160, 161, 162] rfl (fun hg65 => ?_)
              have ho65 : Ow (.ptr TdiskDisk) (muns [mone g0 (.cells [Value.bool ((settleD d0 (min d1 ((d0.2.2.2.2.2.2.length : Nat) : Int)).toNat).1), Value.bool false, Value.bool false, Value.int .i64 (0), Value.int .i64 ((settleD d0 (min d1 ((d0.2.2.2.2.2.2.length : Nat) : Int)).toNat).2.2.2.2.1), Value.slice q58_A5 ((((settleD d0 (min d1 ((d0.2.2.2.2.2.2.length : Nat) : Int)).toNat).2.2.2.2.2.1).1).length) (q58_c5), Value.slice q58_A6 ((((settleD d0 (min d1 ((d0.2.2.2.2.2.2.length : Nat) : Int)).toNat).2.2.2.2.2.1).2.1).length) (q58_c6), Value.slice q58_A7 ((((settleD d0 (min d1 ((d0.2.2.2.2.2.2.length : Nat) : Int)).toNat).2.2.2.2.2.1).2.2.1).length) (q58_c7), Value.slice q58_A8 ((((settleD d0 (min d1 ((d0.2.2.2.2.2.2.length : Nat) : Int)).toNat).2.2.2.2.2.1).2.2.2).length) (q58_c8), Value.slice none (0) (0)].toArray q58_E (0, 0)), q58_n5, q58_n6, q58_n7, q58_n8]) [.pointer (some ⟨g0, 0, none⟩)] (g0, ((settleD d0 (min d1 ((d0.2.2.2.2.2.2.length : Nat) : Int)).toNat).1, false, false, 0, (settleD d0 (min d1 ((d0.2.2.2.2.2.2.length : Nat) : Int)).toNat).2.2.2.2.1, ((settleD d0 (min d1 ((d0.2.2.2.2.2.2.length : Nat) : Int)).toNat).2.2.2.2.2.1), [])) := (mkP_diskDisk ((settleD d0 (min d1 ((d0.2.2.2.2.2.2.length : Nat) : Int)).toNat).1) false false 0 ((settleD d0 (min d1 ((d0.2.2.2.2.2.2.length : Nat) : Int)).toNat).2.2.2.2.1) (((settleD d0 (min d1 ((d0.2.2.2.2.2.2.length : Nat) : Int)).toNat).2.2.2.2.2.1).1) (((settleD d0 (min d1 ((d0.2.2.2.2.2.2.length : Nat) : Int)).toNat).2.2.2.2.2.1).2.1) (((settleD d0 (min d1 ((d0.2.2.2.2.2.2.length : Nat) : Int)).toNat).2.2.2.2.2.1).2.2.1) (((settleD d0 (min d1 ((d0.2.2.2.2.2.2.length : Nat) : Int)).toNat).2.2.2.2.2.1).2.2.2) [] (Seps.nilAt 5 hg65) (by simp only [inK]; (exact fin2_dStart_ok)) (by simp only [inK]; (exact fin2_dStart_ok)) (OwnL.ow (Ow.ownl q58_5 rfl mnil) rfl) (OwnL.ow (Ow.ownl q58_6 rfl mnil) rfl) (OwnL.ow (Ow.ownl q58_7 rfl mnil) rfl) (OwnL.ow (Ow.ownl q58_8 rfl mnil) rfl) (Ow.nil _ _))
              refine VO.keep [165, 0] [(165, muns [mone g0 (.cells [Value.bool ((settleD d0 (min d1 ((d0.2.2.2.2.2.2.length : Nat) : Int)).toNat).1), Value.bool false, Value.bool false, Value.int .i64 (0), Value.int .i64 ((settleD d0 (min d1 ((d0.2.2.2.2.2.2.length : Nat) : Int)).toNat).2.2.2.2.1), Value.slice q58_A5 ((((settleD d0 (min d1 ((d0.2.2.2.2.2.2.length : Nat) : Int)).toNat).2.2.2.2.2.1).1).length) (q58_c5), Value.slice q58_A6 ((((settleD d0 (min d1 ((d0.2.2.2.2.2.2.length : Nat) : Int)).toNat).2.2.2.2.2.1).2.1).length) (q58_c6), Value.slice q58_A7 ((((settleD d0 (min d1 ((d0.2.2.2.2.2.2.length : Nat) : Int)).toNat).2.2.2.2.2.1).2.2.1).length) (q58_c7), Value.slice q58_A8 ((((settleD d0 (min d1 ((d0.2.2.2.2.2.2.length : Nat) : Int)).toNat).2.2.2.2.2.1).2.2.2).length) (q58_c8), Value.slice none (0) (0)].toArray q58_E (0, 0)), q58_n5, q58_n6, q58_n7, q58_n8]), (0, mout (wm W) (m0))] (by kernel_rfl) ?_
              refine VO.k7 0 1 2 6 8 11 49 ?_
              refine VC.rs ?_
              refine VO.as ?_
              refine VO.k7 0 1 2 6 8 11 49 ?_
              refine VC.ret ?_
              refine ⟨_, _, res_run (rs := [.tmp 6]) rfl (.tmp rfl .nil), fun W_ hI => out_of (l := [muns [mone g0 (.cells [Value.bool ((settleD d0 (min d1 ((d0.2.2.2.2.2.2.length : Nat) : Int)).toNat).1), Value.bool false, Value.bool false, Value.int .i64 (0), Value.int .i64 ((settleD d0 (min d1 ((d0.2.2.2.2.2.2.length : Nat) : Int)).toNat).2.2.2.2.1), Value.slice q58_A5 ((((settleD d0 (min d1 ((d0.2.2.2.2.2.2.length : Nat) : Int)).toNat).2.2.2.2.2.1).1).length) (q58_c5), Value.slice q58_A6 ((((settleD d0 (min d1 ((d0.2.2.2.2.2.2.length : Nat) : Int)).toNat).2.2.2.2.2.1).2.1).length) (q58_c6), Value.slice q58_A7 ((((settleD d0 (min d1 ((d0.2.2.2.2.2.2.length : Nat) : Int)).toNat).2.2.2.2.2.1).2.2.1).length) (q58_c7), Value.slice q58_A8 ((((settleD d0 (min d1 ((d0.2.2.2.2.2.2.length : Nat) : Int)).toNat).2.2.2.2.2.1).2.2.2).length) (q58_c8), Value.slice none (0) (0)].toArray q58_E (0, 0)), q58_n5, q58_n6, q58_n7, q58_n8]]) hI [165] rfl rfl (mle_refl _) (fun hS_ => ?_)⟩
              dsimp only [packV]
              have hm0_ : ((dStart d0 d1 d2).1 : DdiskDisk) = ((settleD d0 (min d1 ((d0.2.2.2.2.2.2.length : Nat) : Int)).toNat).1, false, false, 0, (settleD d0 (min d1 ((d0.2.2.2.2.2.2.length : Nat) : Int)).toNat).2.2.2.2.1, ((settleD d0 (min d1 ((d0.2.2.2.2.2.2.length : Nat) : Int)).toNat).2.2.2.2.2.1), []) := by first | rfl | (exact fin0_dStart_ok)
              refine ⟨?_, ?_⟩
              rotate_left
              · rw [hm0_]; exact (Ow.up ho65 (hS_.1 _ (.head _)))
              all_goals (first | rfl | (exact fin0_dStart_ok))
          · -- FFFFF
            refine VO.gN ?_
            refine VO.gN ?_
            refine VO.gN ?_
            refine VO.gN ?_
            refine VO.gN ?_
            refine VO.gN ?_
            refine VO.gN ?_
            refine VO.gN ?_
            refine VO.y rfl (.pF rfl rfl) ?_
            refine VO.gather (l := [mone g0 (.cells [Value.bool ((settleD d0 (min d1 ((d0.2.2.2.2.2.2.length : Nat) : Int)).toNat).1), Value.bool ((settleD d0 (min d1 ((d0.2.2.2.2.2.2.length : Nat) : Int)).toNat).2.1), Value.bool ((settleD d0 (min d1 ((d0.2.2.2.2.2.2.length : Nat) : Int)).toNat).2.2.1), Value.int .i64 ((settleD d0 (min d1 ((d0.2.2.2.2.2.2.length : Nat) : Int)).toNat).2.2.2.1), Value.int .i64 ((settleD d0 (min d1 ((d0.2.2.2.2.2.2.length : Nat) : Int)).toNat).2.2.2.2.1), Value.slice q27_A5 ((((settleD d0 (min d1 ((d0.2.2.2.2.2.2.length : Nat) : Int)).toNat).2.2.2.2.2.1).1).length) (q27_c5), Value.slice q27_A6 ((((settleD d0 (min d1 ((d0.2.2.2.2.2.2.length : Nat) : Int)).toNat).2.2.2.2.2.1).2.1).length) (q27_c6), Value.slice q27_A7 ((((settleD d0 (min d1 ((d0.2.2.2.2.2.2.length : Nat) : Int)).toNat).2.2.2.2.2.1).2.2.1).length) (q27_c7), Value.slice q27_A8 ((((settleD d0 (min d1 ((d0.2.2.2.2.2.2.length : Nat) : Int)).toNat).2.2.2.2.2.1).2.2.2).length) (q27_c8), Value.slice q27_A9 (((settleD d0 (min d1 ((d0.2.2.2.2.2.2.length : Nat) : Int)).toNat).2.2.2.2.2.2).length) (q27_c9)].toArray q27_E (0, 0)), q27_n5, q27_n6, q27_n7, q27_n8, q27_n9]) 166 [133, 128, 129, 130, 131, 132] rfl (fun hg66 => ?_)
            have ho66 : Ow (.ptr TdiskDisk) (muns [mone g0 (.cells [Value.bool ((settleD d0 (min d1 ((d0.2.2.2.2.2.2.length : Nat) : Int)).toNat).1), Value.bool ((settleD d0 (min d1 ((d0.2.2.2.2.2.2.length : Nat) : Int)).toNat).2.1), Value.bool ((settleD d0 (min d1 ((d0.2.2.2.2.2.2.length : Nat) : Int)).toNat).2.2.1), Value.int .i64 ((settleD d0 (min d1 ((d0.2.2.2.2.2.2.length : Nat) : Int)).toNat).2.2.2.1), Value.int .i64 ((settleD d0 (min d1 ((d0.2.2.2.2.2.2.length : Nat) : Int)).toNat).2.2.2.2.1), Value.slice q27_A5 ((((settleD d0 (min d1 ((d0.2.2.2.2.2.2.length : Nat) : Int)).toNat).2.2.2.2.2.1).1).length) (q27_c5), Value.slice q27_A6 ((((settleD d0 (min d1 ((d0.2.2.2.2.2.2.length : Nat) : Int)).toNat).2.2.2.2.2.1).2.1).length) (q27_c6), Value.slice q27_A7 ((((settleD d0 (min d1 ((d0.2.2.2.2.2.2.length : Nat) : Int)).toNat).2.2.2.2.2.1).2.2.1).length) (q27_c7), Value.slice q27_A8 ((((settleD d0 (min d1 ((d0.2.2.2.2.2.2.length : Nat) : Int)).toNat).2.2.2.2.2.1).2.2.2).length) (q27_c8), Value.slice q27_A9 (((settleD d0 (min d1 ((d0.2.2.2.2.2.2.length : Nat) : Int)).toNat).2.2.2.2.2.2).length) (q27_c9)].toArray q27_E (0, 0)), q27_n5, q27_n6, q27_n7, q27_n8, q27_n9]) [.pointer (some ⟨g0, 0, none⟩)] (g0, (settleD d0 (min d1 ((d0.2.2.2.2.2.2.length : Nat) : Int)).toNat)) := (show Ow (.ptr TdiskDisk) _ _ (_, (settleD d0 (min d1 ((d0.2.2.2.2.2.2.length : Nat) : Int)).toNat)) from (mkP_diskDisk ((settleD d0 (min d1 ((d0.2.2.2.2.2.2.length : Nat) : Int)).toNat).1) ((settleD d0 (min d1 ((d0.2.2.2.2.2.2.length : Nat) : Int)).toNat).2.1) ((settleD d0 (min d1 ((d0.2.2.2.2.2.2.length : Nat) : Int)).toNat).2.2.1) ((settleD d0 (min d1 ((d0.2.2.2.2.2.2.length : Nat) : Int)).toNat).2.2.2.1) ((settleD d0 (min d1 ((d0.2.2.2.2.2.2.length : Nat) : Int)).toNat).2.2.2.2.1) (((settleD d0 (min d1 ((d0.2.2.2.2.2.2.length : Nat) : Int)).toNat).2.2.2.2.2.1).1) (((settleD d0 (min d1 ((d0.2.2.2.2.2.2.length : Nat) : Int)).toNat).2.2.2.2.2.1).2.1) (((settleD d0 (min d1 ((d0.2.2.2.2.2.2.length : Nat) : Int)).toNat).2.2.2.2.2.1).2.2.1) (((settleD d0 (min d1 ((d0.2.2.2.2.2.2.length : Nat) : Int)).toNat).2.2.2.2.2.1).2.2.2) ((settleD d0 (min d1 ((d0.2.2.2.2.2.2.length : Nat) : Int)).toNat).2.2.2.2.2.2) hg66 (by simp only [inK]; (exact fin2_dStart_ok)) (by simp only [inK]; (exact fin2_dStart_ok)) (OwnL.ow (Ow.ownl q27_5 rfl mnil) rfl) (OwnL.ow (Ow.ownl q27_6 rfl mnil) rfl) (OwnL.ow (Ow.ownl q27_7 rfl mnil) rfl) (OwnL.ow (Ow.ownl q27_8 rfl mnil) rfl) q27_9))
            refine VO.k7 0 1 2 6 8 11 49 ?_
            refine VC.condF rfl ?_
            refine VC.skip ?_
            refine outN ?_
            refine VC.rs ?_
            refine VO.mv ?_
            refine VO.mv ?_
            refine VO.mv ?_
            refine VO.mv ?_
            refine VO.y rfl (.nilp rfl) ?_
            refine VO.y rfl (.fa rfl tst58 rfl) ?_
            obtain ⟨q67_E, q67_A5, q67_c5, q67_A6, q67_c6, q67_A7, q67_c7, q67_A8, q67_c8, q67_A9, q67_c9, q67_n5, q67_n6, q67_n7, q67_n8, q67_n9, _, q67_S, q67_3, q67_4, q67_5, q67_6, q67_7, q67_8, q67_9⟩ := openP_diskDisk (x0 := (settleD d0 (min d1 ((d0.2.2.2.2.2.2.length : Nat) : Int)).toNat).1) (x1 := (settleD d0 (min d1 ((d0.2.2.2.2.2.2.length : Nat) : Int)).toNat).2.1) (x2 := (settleD d0 (min d1 ((d0.2.2.2.2.2.2.length : Nat) : Int)).toNat).2.2.1) (x3 := (settleD d0 (min d1 ((d0.2.2.2.2.2.2.length : Nat) : Int)).toNat).2.2.2.1) (x4 := (settleD d0 (min d1 ((d0.2.2.2.2.2.2.length : Nat) : Int)).toNat).2.2.2.2.1) (x5 := ((settleD d0 (min d1 ((d0.2.2.2.2.2.2.length : Nat) : Int)).toNat).2.2.2.2.2.1).1) (x6 := ((settleD d0 (min d1 ((d0.2.2.2.2.2.2.length : Nat) : Int)).toNat).2.2.2.2.2.1).2.1) (x7 := ((settleD d0 (min d1 ((d0.2.2.2.2.2.2.length : Nat) : Int)).toNat).2.2.2.2.2.1).2.2.1) (x8 := ((settleD d0 (min d1 ((d0.2.2.2.2.2.2.length : Nat) : Int)).toNat).2.2.2.2.2.1).2.2.2) (x9 := (settleD d0 (min d1 ((d0.2.2.2.2.2.2.length : Nat) : Int)).toNat).2.2.2.2.2.2) ho66
            simp only [inK] at q67_3
            simp only [inK] at q67_4
            have q67_r5 := Rd.room (q67_5.rd (mle_refl _))
            have q67_r6 := Rd.room (q67_6.rd (mle_refl _))
            have q67_r7 := Rd.room (q67_7.rd (mle_refl _))
            have q67_r8 := Rd.room (q67_8.rd (mle_refl _))
            have q67_r9 := Rd.room (q67_9.rd (mle_refl _))
            refine VO.inv _ (fun _ h => h.parts (i := 166) rfl q67_S [173, 168, 169, 170, 171, 172]) ?_
            refine VO.store (k := 1) (c' := [Value.bool ((settleD d0 (min d1 ((d0.2.2.2.2.2.2.length : Nat) : Int)).toNat).1), Value.bool ((settleD d0 (min d1 ((d0.2.2.2.2.2.2.length : Nat) : Int)).toNat).2.1), Value.bool ((settleD d0 (min d1 ((d0.2.2.2.2.2.2.length : Nat) : Int)).toNat).2.2.1), Value.int .i64 ((settleD d0 (min d1 ((d0.2.2.2.2.2.2.length : Nat) : Int)).toNat).2.2.2.1), Value.int .i64 ((settleD d0 (min d1 ((d0.2.2.2.2.2.2.length : Nat) : Int)).toNat).2.2.2.2.1), Value.slice q67_A5 ((((settleD d0 (min d1 ((d0.2.2.2.2.2.2.length : Nat) : Int)).toNat).2.2.2.2.2.1).1).length) (q67_c5), Value.slice q67_A6 ((((settleD d0 (min d1 ((d0.2.2.2.2.2.2.length : Nat) : Int)).toNat).2.2.2.2.2.1).2.1).length) (q67_c6), Value.slice q67_A7 ((((settleD d0 (min d1 ((d0.2.2.2.2.2.2.length : Nat) : Int)).toNat).2.2.2.2.2.1).2.2.1).length) (q67_c7), Value.slice q67_A8 ((((settleD d0 (min d1 ((d0.2.2.2.2.2.2.length : Nat) : Int)).toNat).2.2.2.2.2.1).2.2.2).length) (q67_c8), Value.slice none (0) (0)]) 173 rfl rfl (.inr ⟨tk56, rfl⟩) rfl rfl rfl rfl rfl ?_
            refine VO.y rfl (.nilp rfl) ?_
            refine VO.y rfl (.fa rfl tst58 rfl) ?_
            refine VO.store (k := 1) (c' := [Value.bool ((settleD d0 (min d1 ((d0.2.2.2.2.2.2.length : Nat) : Int)).toNat).1), Value.bool false, Value.bool ((settleD d0 (min d1 ((d0.2.2.2.2.2.2.length : Nat) : Int)).toNat).2.2.1), Value.int .i64 ((settleD d0 (min d1 ((d0.2.2.2.2.2.2.length : Nat) : Int)).toNat).2.2.2.1), Value.int .i64 ((settleD d0 (min d1 ((d0.2.2.2.2.2.2.length : Nat) : Int)).toNat).2.2.2.2.1), Value.slice q67_A5 ((((settleD d0 (min d1 ((d0.2.2.2.2.2.2.length : Nat) : Int)).toNat).2.2.2.2.2.1).1).length) (q67_c5), Value.slice q67_A6 ((((settleD d0 (min d1 ((d0.2.2.2.2.2.2.length : Nat) : Int)).toNat).2.2.2.2.2.1).2.1).length) (q67_c6), Value.slice q67_A7 ((((settleD d0 (min d1 ((d0.2.2.2.2.2.2.length : Nat) : Int)).toNat).2.2.2.2.2.1).2.2.1).length) (q67_c7), Value.slice q67_A8 ((((settleD d0 (min d1 ((d0.2.2.2.2.2.2.length : Nat) : Int)).toNat).2.2.2.2.2.1).2.2.2).length) (q67_c8), Value.slice none (0) (0)]) 173 rfl rfl (.inr ⟨tk4, rfl⟩) rfl rfl rfl rfl rfl ?_
            refine VO.y rfl (.nilp rfl) ?_
            refine VO.y rfl (.fa rfl tst58 rfl) ?_
            refine VO.store (k := 1) (c' := [Value.bool ((settleD d0 (min d1 ((d0.2.2.2.2.2.2.length : Nat) : Int)).toNat).1), Value.bool false, Value.bool false, Value.int .i64 ((settleD d0 (min d1 ((d0.2.2.2.2.2.2.length : Nat) : Int)).toNat).2.2.2.1), Value.int .i64 ((settleD d0 (min d1 ((d0.2.2.2.2.2.2.length : Nat) : Int)).toNat).2.2.2.2.1), Value.slice q67_A5 ((((settleD d0 (min d1 ((d0.2.2.2.2.2.2.length : Nat) : Int)).toNat).2.2.2.2.2.1).1).length) (q67_c5), Value.slice q67_A6 ((((settleD d0 (min d1 ((d0.2.2.2.2.2.2.length : Nat) : Int)).toNat).2.2.2.2.2.1).2.1).length) (q67_c6), Value.slice q67_A7 ((((settleD d0 (min d1 ((d0.2.2.2.2.2.2.length : Nat) : Int)).toNat).2.2.2.2.2.1).2.2.1).length) (q67_c7), Value.slice q67_A8 ((((settleD d0 (min d1 ((d0.2.2.2.2.2.2.length : Nat) : Int)).toNat).2.2.2.2.2.1).2.2.2).length) (q67_c8), Value.slice none (0) (0)]) 173 rfl rfl (.inr ⟨tk4, rfl⟩) rfl rfl rfl rfl rfl ?_
            refine VO.y rfl (.nilp rfl) ?_
            refine VO.y rfl (.fa rfl tst58 rfl) ?_
            refine VO.store (k := 1) (c' := [Value.bool ((settleD d0 (min d1 ((d0.2.2.2.2.2.2.length : Nat) : Int)).toNat).1), Value.bool false, Value.bool false, Value.int .i64 (0), Value.int .i64 ((settleD d0 (min d1 ((d0.2.2.2.2.2.2.length : Nat) : Int)).toNat).2.2.2.2.1), Value.slice q67_A5 ((((settleD d0 (min d1 ((d0.2.2.2.2.2.2.length : Nat) : Int)).toNat).2.2.2.2.2.1).1).length) (q67_c5), Value.slice q67_A6 ((((settleD d0 (min d1 ((d0.2.2.2.2.2.2.length : Nat) : Int)).toNat).2.2.2.2.2.1).2.1).length) (q67_c6), Value.slice q67_A7 ((((settleD d0 (min d1 ((d0.2.2.2.2.2.2.length : Nat) : Int)).toNat).2.2.2.2.2.1).2.2.1).length) (q67_c7), Value.slice q67_A8 ((((settleD d0 (min d1 ((d0.2.2.2.2.2.2.length : Nat) : Int)).toNat).2.2.2.2.2.1).2.2.2).length) (q67_c8), Value.slice none (0) (0)]) 173 rfl rfl (.inr ⟨tk3, rfl⟩) rfl rfl rfl rfl rfl ?_
            refine VO.gather (l := [mone g0 (.cells [Value.bool ((settleD d0 (min d1 ((d0.2.2.2.2.2.2.length : Nat) : Int)).toNat).1), Value.bool false, Value.bool false, Value.int .i64 (0), Value.int .i64 ((settleD d0 (min d1 ((d0.2.2.2.2.2.2.length : Nat) : Int)).toNat).2.2.2.2.1), Value.slice q67_A5 ((((settleD d0 (min d1 ((d0.2.2.2.2.2.2.length : Nat) : Int)).toNat).2.2.2.2.2.1).1).length) (q67_c5), Value.slice q67_A6 ((((settleD d0 (min d1 ((d0.2.2.2.2.2.2.length : Nat) : Int)).toNat).2.2.2.2.2.1).2.1).length) (q67_c6), Value.slice q67_A7 ((((settleD d0 (min d1 ((d0.2.2.2.2.2.2.length : Nat) : Int)).toNat).2.2.2.2.2.1).2.2.1).length) (q67_c7), Value.slice q67_A8 ((((settleD d0 (min d1 ((d0.2.2.2.2.2.2.length : Nat) : Int)).toNat).2.2.2.2.2.1).2.2.2).length) (q67_c8), Value.slice none (0) (0)].toArray q67_E (0, 0)), q67_n5, q67_n6, q67_n7, q67_n8]) 174 [173, 168, 169, 170, 171] rfl (fun hg74 => ?_)
            have ho74 : Ow (.ptr TdiskDisk) (muns [mone g0 (.cells [Value.bool ((settleD d0 (min d1 ((d0.2.2.2.2.2.2.length : Nat) : Int)).toNat).1), Value.bool false, Value.bool false, Value.int .i64 (0), Value.int .i64 ((settleD d0 (min d1 ((d0.2.2.2.2.2.2.length : Nat) : Int)).toNat).2.2.2.2.1), Value.slice q67_A5 ((((settleD d0 (min d1 ((d0.2.2.2.2.2.2.length : Nat) : Int)).toNat).2.2.2.2.2.1).1).length) (q67_c5), Value.slice q67_A6 ((((settleD d0 (min d1 ((d0.2.2.2.2.2.2.length : Nat) : Int)).toNat).2.2.2.2.2.1).2.1).length) (q67_c6), Value.slice q67_A7 ((((settleD d0 (min d1 ((d0.2.2.2.2.2.2.length : Nat) : Int)).toNat).2.2.2.2.2.1).2.2.1).length) (q67_c7), Value.slice q67_A8 ((((settleD d0 (min d1 ((d0.2.2.2.2.2.2.length : Nat) : Int)).toNat).2.2.2.2.2.1).2.2.2).length) (q67_c8), Value.slice none (0) (0)].toArray q67_E (0, 0)), q67_n5, q67_n6, q67_n7, q67_n8]) [.pointer (some ⟨g0, 0, none⟩)] (g0, ((settleD d0 (min d1 ((d0.2.2.2.2.2.2.length : Nat) : Int)).toNat).1, false, false, 0, (settleD d0 (min d1 ((d0.2.2.2.2.2.2.length : Nat) : Int)).toNat).2.2.2.2.1, ((settleD d0 (min d1 ((d0.2.2.2.2.2.2.length : Nat) : Int)).toNat).2.2.2.2.2.1), [])) := (mkP_diskDisk ((settleD d0 (min d1 ((d0.2.2.2.2.2.2.length : Nat) : Int)).toNat).1) false false 0 ((settleD d0 (min d1 ((d0.2.2.2.2.2.2.length : Nat) : Int)).toNat).2.2.2.2.1) (((settleD d0 (min d1 ((d0.2.2.2.2.2.2.length : Nat) : Int)).toNat).2.2.2.2.2.1).1) (((settleD d0 (min d1 ((d0.2.2.2.2.2.2.length : Nat) : Int)).toNat).2.2.2.2.2.1).2.1) (((settleD d0 (min d1 ((d0.2.2.2.2.2.2.length : Nat) : Int)).toNat).2.2.2.2.2.1).2.2.1) (((settleD d0 (min d1 ((d0.2.2.2.2.2.2.length : Nat) : Int)).toNat).2.2.2.2.2.1).2.2.2) [] (Seps.nilAt 5 hg74) (by simp only [inK]; (exact fin2_dStart_ok)) (by simp only [inK]; (exact fin2_dStart_ok)) (OwnL.ow (Ow.ownl q67_5 rfl mnil) rfl) (OwnL.ow (Ow.ownl q67_6 rfl mnil) rfl) (OwnL.ow (Ow.ownl q67_7 rfl mnil) rfl) (OwnL.ow (Ow.ownl q67_8 rfl mnil) rfl) (Ow.nil _ _))
            refine VO.keep [174, 0] [(174, muns [mone g0 (.cells [Value.bool ((settleD d0 (min d1 ((d0.2.2.2.2.2.2.length : Nat) : Int)).toNat).1), Value.bool false, Value.bool false, Value.int .i64 (0), Value.int .i64 ((settleD d0 (min d1 ((d0.2.2.2.2.2.2.length : Nat) : Int)).toNat).2.2.2.2.1), Value.slice q67_A5 ((((settleD d0 (min d1 ((d0.2.2.2.2.2.2.length : Nat) : Int)).toNat).2.2.2.2.2.1).1).length) (q67_c5), Value.slice q67_A6 ((((settleD d0 (min d1 ((d0.2.2.2.2.2.2.length : Nat) : Int)).toNat).2.2.2.2.2.1).2.1).length) (q67_c6), Value.slice q67_A7 ((((settleD d0 (min d1 ((d0.2.2.2.2.2.2.length : Nat) : Int)).toNat).2.2.2.2.2.1).2.2.1).length) (q67_c7), Value.slice q67_A8 ((((settleD d0 (min d1 ((d0.2.2.2.2.2.2.length : Nat) : Int)).toNat).2.2.2.2.2.1).2.2.2).length) (q67_c8), Value.slice none (0) (0)].toArray q67_E (0, 0)), q67_n5, q67_n6, q67_n7, q67_n8]), (0, mout (wm W) (m0))] (by kernel_rfl) ?_
            refine VO.k7 0 1 2 6 8 11 49 ?_
            refine VC.rs ?_
            refine VO.as ?_
            refine VO.k7 0 1 2 6 8 11 49 ?_
            refine VC.ret ?_
            refine ⟨_, _, res_run (rs := [.tmp 6]) rfl (.tmp rfl .nil), fun W_ hI => out_of (l := [muns [mone g0 (.cells [Value.bool ((settleD d0 (min d1 ((d0.2.2.2.2.2.2.length : Nat) : Int)).toNat).1), Value.bool false, Value.bool false, Value.int .i64 (0), Value.int .i64 ((settleD d0 (min d1 ((d0.2.2.2.2.2.2.length : Nat) : Int)).toNat).2.2.2.2.1), Value.slice q67_A5 ((((settleD d0 (min d1 ((d0.2.2.2.2.2.2.length : Nat) : Int)).toNat).2.2.2.2.2.1).1).length) (q67_c5), Value.slice q67_A6 ((((settleD d0 (min d1 ((d0.2.2.2.2.2.2.length : Nat) : Int)).toNat).2.2.2.2.2.1).2.1).length) (q67_c6), Value.slice q67_A7 ((((settleD d0 (min d1 ((d0.2.2.2.2.2.2.length : Nat) : Int)).toNat).2.2.2.2.2.1).2.2.1).length) (q67_c7), Value.slice q67_A8 ((((settleD d0 (min d1 ((d0.2.2.2.2.2.2.length : Nat) : Int)).toNat).2.2.2.2.2.1).2.2.2).length) (q67_c8), Value.slice none (0) (0)].toArray q67_E (0, 0)), q67_n5, q67_n6, q67_n7, q67_n8]]) hI [174] rfl rfl (mle_refl _) (fun hS_ => ?_)⟩
            dsimp only [packV]
            have hm0_ : ((dStart d0 d1 d2).1 : DdiskDisk) = ((settleD d0 (min d1 ((d0.2.2.2.2.2.2.length : Nat) : Int)).toNat).1, false, false, 0, (settleD d0 (min d1 ((d0.2.2.2.2.2.2.length : Nat) : Int)).toNat).2.2.2.2.1, ((settleD d0 (min d1 ((d0.2.2.2.2.2.2.length : Nat) : Int)).toNat).2.2.2.2.2.1), []) := by first | rfl | (exact fin0_dStart_ok)
            refine ⟨?_, ?_⟩
            rotate_left
            · rw [hm0_]; exact (Ow.up ho74 (hS_.1 _ (.head _)))
            all_goals (first | rfl | (exact fin0_dStart_ok))
end
section
set_option linter.unusedVariables false
set_option linter.unusedSimpArgs false
set_option maxRecDepth 4000
theorem dWriteN_ok (W : World) (d1 : Int) (h1 : inK .i64 d1) {v2 : Value} {d2 : List UInt8} (h2 : Rd (.sl .byte) (wm W) [v2] d2) : CallR Try.prog 14 [.pointer none, .int .i64 d1, v2] W (mnil) (fun v m' => v = .int .i64 (1)) := by
  have h1' := h1; simp only [inK] at h1'
  obtain ⟨A2, c2, rfl, l2, k2⟩ := h2.slice
  simp only [maxLen] at k2
  refine CallR.ofA (n := 44) Try.func14 rfl rfl rfl ?_
  refine VC.rs ?_
  refine VO.as ?_
  refine VO.k4 0 1 2 6 ?_
  refine VC.seq ?_
  refine VC.rs ?_
  refine VO.mv ?_
  refine VO.callN 101 rfl fnOk35 rfl (fun W hW => dWrongN_ok W ) (fun v1 m1 hv1 => ?_)
  subst hv1
  refine VO.as ?_
  refine VO.k5 0 1 2 6 7 ?_
  refine VC.rs ?_
  refine VO.mv ?_
  refine VO.y rfl (.neq rfl rfl) ?_
  refine VO.keep [0] [(0, wm W)] (by kernel_rfl) ?_
  refine VO.k6 0 1 2 6 7 12 ?_
  refine VC.cond rfl (fun hc2 => ?_) (fun hc2 => ?_)
  · -- T
    refine VC.rs ?_
    refine VO.mv ?_
    refine VO.as ?_
    refine VO.k6 0 1 2 6 7 12 ?_
    refine VC.ret ?_
    refine outR ?_
    refine ⟨_, _, res_run (rs := [.tmp 6]) rfl (.tmp rfl .nil), fun W_ hI => out_of (l := []) hI [] rfl rfl (mle_refl _) (fun hS_ => ?_)⟩
    dsimp only [packV]
    all_goals (first | rfl | (simp [*]; done))
  · -- F
    exact absurd hc2 (by decide)
theorem dCutN_ok (W : World) (d1 : Int) (h1 : inK .i64 d1) (d2 : Int) (h2 : inK .i64 d2) : CallR Try.prog 25 [.pointer none, .int .i64 d1, .int .i64 d2] W (mnil) (fun v m' => v = .int .i64 (1)) := by
  have h1' := h1; simp only [inK] at h1'
  have h2' := h2; simp only [inK] at h2'
  refine CallR.ofA (n := 43) Try.func25 rfl rfl rfl ?_
  refine VC.rs ?_
  refine VO.as ?_
  refine VO.k4 0 1 2 6 ?_
  refine VC.seq ?_
  refine VC.rs ?_
  refine VO.mv ?_
  refine VO.callN 101 rfl fnOk35 rfl (fun W hW => dWrongN_ok W ) (fun v1 m1 hv1 => ?_)
  subst hv1
  refine VO.as ?_
  refine VO.k5 0 1 2 6 7 ?_
  refine VC.rs ?_
  refine VO.mv ?_
  refine VO.y rfl (.neq rfl rfl) ?_
  refine VO.keep [0] [(0, wm W)] (by kernel_rfl) ?_
  refine VO.k6 0 1 2 6 7 11 ?_
  refine VC.cond rfl (fun hc2 => ?_) (fun hc2 => ?_)
  · -- T
    refine VC.rs ?_
    refine VO.mv ?_
    refine VO.as ?_
    refine VO.k6 0 1 2 6 7 11 ?_
    refine VC.ret ?_
    refine outR ?_
    refine ⟨_, _, res_run (rs := [.tmp 6]) rfl (.tmp rfl .nil), fun W_ hI => out_of (l := []) hI [] rfl rfl (mle_refl _) (fun hS_ => ?_)⟩
    dsimp only [packV]
    all_goals (first | rfl | (simp [*]; done))
  · -- F
    exact absurd hc2 (by decide)
theorem dSyncN_ok (W : World) : CallR Try.prog 12 [.pointer none] W (mnil) (fun v m' => v = .int .i64 (1)) := by
  refine CallR.ofA (n := 19) Try.func12 rfl rfl rfl ?_
  refine VC.rs ?_
  refine VO.as ?_
  refine VO.k2 0 2 ?_
  refine VC.seq ?_
  refine VC.rs ?_
  refine VO.mv ?_
  refine VO.callN 101 rfl fnOk35 rfl (fun W hW => dWrongN_ok W ) (fun v1 m1 hv1 => ?_)
  subst hv1
  refine VO.as ?_
  refine VO.k3 0 2 3 ?_
  refine VC.rs ?_
  refine VO.mv ?_
  refine VO.y rfl (.neq rfl rfl) ?_
  refine VO.keep [0] [(0, wm W)] (by kernel_rfl) ?_
  refine VO.k4 0 2 3 7 ?_
  refine VC.cond rfl (fun hc2 => ?_) (fun hc2 => ?_)
  · -- T
    refine VC.rs ?_
    refine VO.mv ?_
    refine VO.as ?_
    refine VO.k4 0 2 3 7 ?_
    refine VC.ret ?_
    refine outR ?_
    refine ⟨_, _, res_run (rs := [.tmp 2]) rfl (.tmp rfl .nil), fun W_ hI => out_of (l := []) hI [] rfl rfl (mle_refl _) (fun hS_ => ?_)⟩
    dsimp only [packV]
    all_goals (first | rfl | (simp [*]; done))
  · -- F
    exact absurd hc2 (by decide)
theorem dReadN_ok (W : World) (d1 : Int) (h1 : inK .i64 d1) : CallR Try.prog 18 [.pointer none, .int .i64 d1] W (mnil) (fun v m' => ∃ (s0 : Value), v = .tuple #[s0, .int .i64 (1)] ∧ Ow (.sl .byte) m' [s0] ([])) := by
  have h1' := h1; simp only [inK] at h1'
  refine CallR.ofA (n := 18) Try.func18 rfl rfl rfl ?_
  refine VC.rs ?_
  refine VO.as ?_
  refine VO.as ?_
  refine VO.k4 0 1 4 5 ?_
  refine VC.seq ?_
  refine VC.rs ?_
  refine VO.mv ?_
  refine VO.callN 101 rfl fnOk35 rfl (fun W hW => dWrongN_ok W ) (fun v1 m1 hv1 => ?_)
  subst hv1
  refine VO.as ?_
  refine VO.k5 0 1 4 5 6 ?_
  refine VC.rs ?_
  refine VO.mv ?_
  refine VO.y rfl (.neq rfl rfl) ?_
  refine VO.keep [0] [(0, wm W)] (by kernel_rfl) ?_
  refine VO.k6 0 1 4 5 6 10 ?_
  refine VC.cond rfl (fun hc2 => ?_) (fun hc2 => ?_)
  · -- T
    refine VC.rs ?_
    refine VO.mv ?_
    refine VO.as ?_
    refine VO.as ?_
    refine VO.k6 0 1 4 5 6 10 ?_
    refine VC.ret ?_
    refine outR ?_
    refine ⟨_, _, res_run (rs := [.tmp 4, .tmp 5]) rfl (.tmp rfl (.tmp rfl .nil)), fun W_ hI => out_of (l := []) hI [] rfl rfl (mle_refl _) (fun hS_ => ?_)⟩
    dsimp only [packV]
    have he0 : ([] : Ty.Den (.sl .byte)) = [] := by first | rfl | (simp [*]; done)
    refine ⟨Value.slice none (0) (0), ?_, ?_⟩
    rotate_left
    · rw [he0]; exact (Ow.nil _ _)
    all_goals (first | rfl | (simp [*]; done))
  · -- F
    exact absurd hc2 (by decide)
theorem dFuseN_ok (W : World) (d1 : Int) (h1 : inK .i64 d1) : CallR Try.prog 22 [.pointer none, .int .i64 d1] W (mnil) (fun v m' => v = .int .i64 (1)) := by
  have h1' := h1; simp only [inK] at h1'
  refine CallR.ofA (n := 20) Try.func22 rfl rfl rfl ?_
  refine VC.rs ?_
  refine VO.as ?_
  refine VO.k3 0 1 4 ?_
  refine VC.seq ?_
  refine VC.rs ?_
  refine VO.mv ?_
  refine VO.callN 101 rfl fnOk35 rfl (fun W hW => dWrongN_ok W ) (fun v1 m1 hv1 => ?_)
  subst hv1
  refine VO.as ?_
  refine VO.k4 0 1 4 5 ?_
  refine VC.rs ?_
  refine VO.mv ?_
  refine VO.y rfl (.neq rfl rfl) ?_
  refine VO.keep [0] [(0, wm W)] (by kernel_rfl) ?_
  refine VO.k5 0 1 4 5 9 ?_
  refine VC.cond rfl (fun hc2 => ?_) (fun hc2 => ?_)
  · -- T
    refine VC.rs ?_
    refine VO.mv ?_
    refine VO.as ?_
    refine VO.k5 0 1 4 5 9 ?_
    refine VC.ret ?_
    refine outR ?_
    refine ⟨_, _, res_run (rs := [.tmp 4]) rfl (.tmp rfl .nil), fun W_ hI => out_of (l := []) hI [] rfl rfl (mle_refl _) (fun hS_ => ?_)⟩
    dsimp only [packV]
    all_goals (first | rfl | (simp [*]; done))
  · -- F
    exact absurd hc2 (by decide)
theorem dSafeN_ok (W : World) : CallR Try.prog 26 [.pointer none] W (mnil) (fun v m' => v = .int .i64 (1)) := by
  refine CallR.ofA (n := 15) Try.func26 rfl rfl rfl ?_
  refine VC.rs ?_
  refine VO.as ?_
  refine VO.k2 0 2 ?_
  refine VC.seq ?_
  refine VC.rs ?_
  refine VO.mv ?_
  refine VO.callN 101 rfl fnOk35 rfl (fun W hW => dWrongN_ok W ) (fun v1 m1 hv1 => ?_)
  subst hv1
  refine VO.as ?_
  refine VO.k3 0 2 3 ?_
  refine VC.rs ?_
  refine VO.mv ?_
  refine VO.y rfl (.neq rfl rfl) ?_
  refine VO.keep [0] [(0, wm W)] (by kernel_rfl) ?_
  refine VO.k4 0 2 3 7 ?_
  refine VC.cond rfl (fun hc2 => ?_) (fun hc2 => ?_)
  · -- T
    refine VC.rs ?_
    refine VO.mv ?_
    refine VO.as ?_
    refine VO.k4 0 2 3 7 ?_
    refine VC.ret ?_
    refine outR ?_
    refine ⟨_, _, res_run (rs := [.tmp 2]) rfl (.tmp rfl .nil), fun W_ hI => out_of (l := []) hI [] rfl rfl (mle_refl _) (fun hS_ => ?_)⟩
    dsimp only [packV]
    all_goals (first | rfl | (simp [*]; done))
  · -- F
    exact absurd hc2 (by decide)
theorem dPullN_ok (W : World) : CallR Try.prog 16 [.pointer none] W (mnil) (fun v m' => v = .int .i64 (1)) := by
  refine CallR.ofA (n := 12) Try.func16 rfl rfl rfl ?_
  refine VC.rs ?_
  refine VO.as ?_
  refine VO.k2 0 2 ?_
  refine VC.seq ?_
  refine VC.rs ?_
  refine VO.mv ?_
  refine VO.callN 101 rfl fnOk35 rfl (fun W hW => dWrongN_ok W ) (fun v1 m1 hv1 => ?_)
  subst hv1
  refine VO.as ?_
  refine VO.k3 0 2 3 ?_
  refine VC.rs ?_
  refine VO.mv ?_
  refine VO.y rfl (.neq rfl rfl) ?_
  refine VO.keep [0] [(0, wm W)] (by kernel_rfl) ?_
  refine VO.k4 0 2 3 7 ?_
  refine VC.cond rfl (fun hc2 => ?_) (fun hc2 => ?_)
  · -- T
    refine VC.rs ?_
    refine VO.mv ?_
    refine VO.as ?_
    refine VO.k4 0 2 3 7 ?_
    refine VC.ret ?_
    refine outR ?_
    refine ⟨_, _, res_run (rs := [.tmp 2]) rfl (.tmp rfl .nil), fun W_ hI => out_of (l := []) hI [] rfl rfl (mle_refl _) (fun hS_ => ?_)⟩
    dsimp only [packV]
    all_goals (first | rfl | (simp [*]; done))
  · -- F
    exact absurd hc2 (by decide)
theorem dOnN_ok (W : World) : CallR Try.prog 23 [.pointer none] W (mnil) (fun v m' => v = .bool (decide (False))) := by
  refine CallR.ofA (n := 13) Try.func23 rfl rfl rfl ?_
  refine VC.rs ?_
  refine VO.as ?_
  refine VO.k2 0 2 ?_
  refine VC.rs ?_
  refine VO.mv ?_
  refine VO.callN 101 rfl fnOk38 rfl (fun W hW => dNoneN_ok W ) (fun v1 m1 hv1 => ?_)
  subst hv1
  refine VO.y rfl (.not rfl) ?_
  refine VO.mv ?_
  refine VO.gN ?_
  refine VO.gN ?_
  refine VO.gN ?_
  refine VO.gN ?_
  refine VO.gN ?_
  refine VO.y rfl (.pF rfl rfl) ?_
  refine VO.as ?_
  refine VO.k2 0 2 ?_
  refine VC.ret ?_
  refine ⟨_, _, res_run (rs := [.tmp 2]) rfl (.tmp rfl .nil), fun W_ hI => out_of (l := []) hI [] rfl rfl (mle_refl _) (fun hS_ => ?_)⟩
  dsimp only [packV]
  all_goals (first | rfl | (simp [*]; done))
theorem dPendingN_ok (W : World) : CallR Try.prog 13 [.pointer none] W (mnil) (fun v m' => v = .int .i64 (0)) := by
  refine CallR.ofA (n := 10) Try.func13 rfl rfl rfl ?_
  refine VC.rs ?_
  refine VO.as ?_
  refine VO.k2 0 2 ?_
  refine VC.seq ?_
  refine VC.rs ?_
  refine VO.mv ?_
  refine VO.callN 101 rfl fnOk38 rfl (fun W hW => dNoneN_ok W ) (fun v1 m1 hv1 => ?_)
  subst hv1
  refine VO.k3 0 2 4 ?_
  refine VC.condT rfl ?_
  refine VC.rs ?_
  refine VO.as ?_
  refine VO.keep [0] [(0, wm W)] (by kernel_rfl) ?_
  refine VO.k3 0 2 4 ?_
  refine VC.ret ?_
  refine outR ?_
  refine ⟨_, _, res_run (rs := [.tmp 2]) rfl (.tmp rfl .nil), fun W_ hI => out_of (l := []) hI [] rfl rfl (mle_refl _) (fun hS_ => ?_)⟩
  dsimp only [packV]
  all_goals (first | rfl | (simp [*]; done))
theorem dStepsN_ok (W : World) : CallR Try.prog 24 [.pointer none] W (mnil) (fun v m' => v = .int .i64 (0)) := by
  refine CallR.ofA (n := 9) Try.func24 rfl rfl rfl ?_
  refine VC.rs ?_
  refine VO.as ?_
  refine VO.k2 0 2 ?_
  refine VC.seq ?_
  refine VC.rs ?_
  refine VO.mv ?_
  refine VO.callN 101 rfl fnOk38 rfl (fun W hW => dNoneN_ok W ) (fun v1 m1 hv1 => ?_)
  subst hv1
  refine VO.k3 0 2 4 ?_
  refine VC.condT rfl ?_
  refine VC.rs ?_
  refine VO.as ?_
  refine VO.keep [0] [(0, wm W)] (by kernel_rfl) ?_
  refine VO.k3 0 2 4 ?_
  refine VC.ret ?_
  refine outR ?_
  refine ⟨_, _, res_run (rs := [.tmp 2]) rfl (.tmp rfl .nil), fun W_ hI => out_of (l := []) hI [] rfl rfl (mle_refl _) (fun hS_ => ?_)⟩
  dsimp only [packV]
  all_goals (first | rfl | (simp [*]; done))
theorem dDurableN_ok (W : World) (d1 : Int) (h1 : inK .i64 d1) : CallR Try.prog 21 [.pointer none, .int .i64 d1] W (mnil) (fun v m' => ∃ (s0 : Value), v = s0 ∧ Ow (.sl .byte) m' [s0] ([])) := by
  have h1' := h1; simp only [inK] at h1'
  refine CallR.ofA (n := 19) Try.func21 rfl rfl rfl ?_
  refine VC.rs ?_
  refine VO.as ?_
  refine VO.k3 0 1 4 ?_
  refine VC.seq ?_
  refine VC.rs ?_
  refine VO.mv ?_
  refine VO.callN 101 rfl fnOk38 rfl (fun W hW => dNoneN_ok W ) (fun v1 m1 hv1 => ?_)
  subst hv1
  refine VO.mv ?_
  refine VO.gN ?_
  refine VO.gN ?_
  refine VO.gN ?_
  refine VO.y rfl (.pT rfl rfl) ?_
  refine VO.k4 0 1 4 11 ?_
  refine VC.condT rfl ?_
  refine VC.rs ?_
  refine VO.as ?_
  refine VO.keep [0] [(0, wm W)] (by kernel_rfl) ?_
  refine VO.k4 0 1 4 11 ?_
  refine VC.ret ?_
  refine outR ?_
  refine ⟨_, _, res_run (rs := [.tmp 4]) rfl (.tmp rfl .nil), fun W_ hI => out_of (l := []) hI [] rfl rfl (mle_refl _) (fun hS_ => ?_)⟩
  dsimp only [packV]
  have he0 : ([] : Ty.Den (.sl .byte)) = [] := by first | rfl | (simp [*]; done)
  refine ⟨Value.slice none (0) (0), ?_, ?_⟩
  rotate_left
  · rw [he0]; exact (Ow.nil _ _)
  all_goals (first | rfl | (simp [*]; done))
theorem dStartN_ok (W : World) (d1 : Int) (h1 : inK .i64 d1) (d2 : Int) (h2 : inK .i64 d2) : CallR Try.prog 17 [.pointer none, .int .i64 d1, .int .i64 d2] W (mnil) (fun v m' => v = .int .i64 (1)) := by
  have h1' := h1; simp only [inK] at h1'
  have h2' := h2; simp only [inK] at h2'
  refine CallR.ofA (n := 93) Try.func17 rfl rfl rfl ?_
  refine VC.rs ?_
  refine VO.as ?_
  refine VO.k4 0 1 2 6 ?_
  refine VC.seq ?_
  refine VC.block ?_
  refine VC.rs ?_
  refine VO.mv ?_
  refine VO.callN 101 rfl fnOk38 rfl (fun W hW => dNoneN_ok W ) (fun v1 m1 hv1 => ?_)
  subst hv1
  refine VO.as ?_
  refine VO.k5 0 1 2 6 8 ?_
  refine VC.condT rfl ?_
  refine VC.rs ?_
  refine VO.as ?_
  refine VO.keep [0] [(0, wm W)] (by kernel_rfl) ?_
  refine VO.k5 0 1 2 6 8 ?_
  refine VC.ret ?_
  refine outBR ?_
  refine outR ?_
  refine ⟨_, _, res_run (rs := [.tmp 6]) rfl (.tmp rfl .nil), fun W_ hI => out_of (l := []) hI [] rfl rfl (mle_refl _) (fun hS_ => ?_)⟩
  dsimp only [packV]
  all_goals (first | rfl | (simp [*]; done))
end
section
set_option linter.unusedVariables false
def cCheck (c : DCommit) : Int := if 1 ≤ c.1 ∧ c.1 ≤ 1048576 then if 1 ≤ c.2.1 ∧ c.2.1 ≤ 1048576 then batchCheck c.2.2 else 2 else 2
def cFollowsAt : Int → Int → Int → List DCommit → DFault
  | _, _, _, [] => (0, 0)
  | e, n, i, c :: r => if cCheck c ≠ 0 then (cCheck c, i) else if c.2.1 - 1 ≠ n ∨ c.1 < e then (15, i) else cFollowsAt c.1 c.2.1 (i + 1) r
def cFollows (e n : Int) (l : List DCommit) : DFault := cFollowsAt e n 0 l
end
section
set_option linter.unusedVariables false
def sGo (en : Int) : Int → Int → Nat → List DStart → Prop
  | _, _, _, [] => True
  | le, lf, i, s :: r => le < s.1 ∧ s.1 ≤ 1048576 ∧ lf < s.2 ∧ s.2 ≤ en ∧ (i = 0 → s.2 = 1) ∧ sGo en s.1 s.2 (i + 1) r
instance decGo (en : Int) : ∀ (le lf : Int) (i : Nat) (l : List DStart), Decidable (sGo en le lf i l)
  | _, _, _, [] => isTrue trivial
  | le, lf, i, s :: r => by
    have := decGo en s.1 s.2 (i + 1) r
    unfold sGo; infer_instance
def sCheck (l : List DStart) (en : Int) : Int := if 0 ≤ en ∧ en ≤ 1048576 ∧ ((l.length : Int) = 0 ↔ en = 0) ∧ sGo en 0 0 0 l then 0 else 5
def bareM (m : DMessage) : Prop := m.2.2.1 = 0 ∧ m.2.2.2.1 = 0 ∧ m.2.2.2.2.1.length = 0 ∧ m.2.2.2.2.2.1 = 0 ∧ m.2.2.2.2.2.2.1 = 0 ∧ m.2.2.2.2.2.2.2.length = 0
instance (m : DMessage) : Decidable (bareM m) := by unfold bareM; infer_instance
def lastOk (l : List DStart) (e : Int) : Bool := match l.getLast? with
  | some s => decide (s.1 ≤ e)
  | none => true
def helloM (m : DMessage) : Prop := (1 ≤ m.2.2.1 ∧ m.2.2.1 ≤ 3) ∧ sCheck m.2.2.2.2.1 m.2.2.2.1 = 0 ∧ lastOk m.2.2.2.2.1 m.2.1 = true ∧ m.2.2.2.2.2.1 = 0 ∧ m.2.2.2.2.2.2.1 = 0 ∧ m.2.2.2.2.2.2.2.length = 0
instance (m : DMessage) : Decidable (helloM m) := by unfold helloM; infer_instance
def shipM (m : DMessage) : Prop := (1 ≤ m.2.2.2.2.2.1 ∧ m.2.2.2.2.2.1 ≤ 1048576) ∧ (0 ≤ m.2.2.2.2.2.2.1 ∧ m.2.2.2.2.2.2.1 ≤ m.2.1) ∧ (m.2.2.2.2.2.2.1 = 0 ↔ m.2.2.2.2.2.1 = 1) ∧ m.2.2.2.2.2.2.2.length ≤ 4 ∧
  (cFollows m.2.2.2.2.2.2.1 (m.2.2.2.2.2.1 - 1) m.2.2.2.2.2.2.2).1 = 0 ∧ (∀ c ∈ m.2.2.2.2.2.2.2, c.1 ≤ m.2.1) ∧ m.2.2.1 = 0 ∧ m.2.2.2.1 = 0 ∧ m.2.2.2.2.1.length = 0
instance (m : DMessage) : Decidable (shipM m) := by unfold shipM; infer_instance
def ackM (m : DMessage) : Prop := (0 ≤ m.2.2.2.1 ∧ m.2.2.2.1 ≤ 1048576) ∧ m.2.2.1 = 0 ∧ m.2.2.2.2.1.length = 0 ∧ m.2.2.2.2.2.1 = 0 ∧ m.2.2.2.2.2.2.1 = 0 ∧ m.2.2.2.2.2.2.2.length = 0
instance (m : DMessage) : Decidable (ackM m) := by unfold ackM; infer_instance
end
section
set_option linter.unusedVariables false
def epochAt (l : List DCommit) (n : Int) : Int := match l[n.toNat]? with
  | some c => c.1
  | none => 0
def fitsM (l : List DCommit) (m : DMessage) : Prop := (1 < m.2.2.2.2.2.1 → epochAt l (m.2.2.2.2.2.1 - 2) = m.2.2.2.2.2.2.1) ∧ ∀ c ∈ m.2.2.2.2.2.2.2, c.2.1 ≤ l.length → epochAt l (c.2.1 - 1) = c.1
instance (l : List DCommit) (m : DMessage) : Decidable (fitsM l m) := by unfold fitsM; infer_instance
end
section
set_option linter.unusedVariables false
set_option linter.unusedSimpArgs false
set_option maxRecDepth 4000
theorem pick_ok (W : World) (d0 : Int) (h0 : inK .i64 d0) (d1 : Int) (h1 : inK .i64 d1) (e0 : 0 < d1) : CallR Try.prog 11 [.int .i64 d0, .int .i64 d1] W (mnil) (fun v m' => v = .int .i64 (pickI d0 d1)) := by
  have h0' := h0; simp only [inK] at h0'
  have h1' := h1; simp only [inK] at h1'
  refine CallR.ofA (n := 14) Try.func11 rfl rfl rfl ?_
  refine VC.rs ?_
  refine VO.as ?_
  refine VO.k3 0 1 4 ?_
  refine VC.rs ?_
  refine VO.mv ?_
  refine VO.mv ?_
  have hm1 := tmod_bounds (d0) (d1) bd
  refine VO.y rfl (.quo (.inr rfl) rfl rfl (rem_int _ _ _ bd)) ?_
  refine VO.as ?_
  refine VO.k3 0 1 4 ?_
  refine VC.seq ?_
  refine VC.rs ?_
  refine VO.mv ?_
  refine VO.y rfl (.lss rfl rfl) ?_
  refine VO.keep [0] [(0, wm W)] (by kernel_rfl) ?_
  refine VO.k4 0 1 4 9 ?_
  refine VC.cond rfl (fun hc2 => ?_) (fun hc2 => ?_)
  · -- T
    refine VC.reg ?_
    refine VO.mv ?_
    refine VO.mv ?_
    refine VO.y rfl (.add rfl rfl rfl ⟨bd, bd⟩) ?_
    refine VO.as ?_
    refine VO.k4 0 1 4 9 ?_
    refine outN ?_
    refine VC.rs ?_
    refine VO.mv ?_
    refine VO.as ?_
    refine VO.k4 0 1 4 9 ?_
    refine VC.ret ?_
    refine ⟨_, _, res_run (rs := [.tmp 4]) rfl (.tmp rfl .nil), fun W_ hI => out_of (l := []) hI [] rfl rfl (mle_refl _) (fun hS_ => ?_)⟩
    dsimp only [packV]
    all_goals (first | rfl | (congr 1; unfold pickI; split <;> omega))
  · -- F
    refine VC.skip ?_
    refine outN ?_
    refine VC.rs ?_
    refine VO.mv ?_
    refine VO.as ?_
    refine VO.k4 0 1 4 9 ?_
    refine VC.ret ?_
    refine ⟨_, _, res_run (rs := [.tmp 4]) rfl (.tmp rfl .nil), fun W_ hI => out_of (l := []) hI [] rfl rfl (mle_refl _) (fun hS_ => ?_)⟩
    dsimp only [packV]
    all_goals (first | rfl | (congr 1; unfold pickI; split <;> omega))
end
section
set_option linter.unusedVariables false
abbrev DAct := Dlaw05Act
def smallA (l : List DAct) : Prop := (∀ a ∈ l, a.2.2.2.2.length ≤ 400) ∧ l.length ≤ 100
instance (l : List DAct) : Decidable (smallA l) := by unfold smallA; infer_instance
def actD (d : DDisk) (a : DAct) (b : Bytes) : DDisk × Int :=
  if pickI a.1 7 = 0 then dWrite d a.2.1 b else if pickI a.1 7 = 1 then dCut d a.2.1 a.2.2.1 else if pickI a.1 7 = 2 then dSync d else if pickI a.1 7 = 3 then dFuse d a.2.2.1
  else if pickI a.1 7 = 4 then dPull d else if pickI a.1 7 = 5 then dStart d a.2.2.1 a.2.2.2.1 else dSafe d
structure Fz (n : Int) (d : DDisk) : Prop where
  ok : okD d
  made : d.1 = true
  has : d.2.2.1 = true
  sum : d.2.2.2.2.1 + d.2.2.2.1 = n
  off : d.2.1 = true → d.2.2.2.1 = 0
theorem Fz.burn {n : Int} {d : DDisk} (h : Fz n d) (ho : d.2.1 = false) : Fz n (burnD d).1 ∧ ((burnD d).2 = true ↔ (burnD d).1.2.1 = false) ∧ ((burnD d).2 = true → (burnD d).1.2.1 = false) := by
  have hk := burn_ok h.ok
  obtain ⟨h1, h2, h3, h4, h5⟩ := h
  unfold burnD at hk ⊢
  rw [if_pos h3] at hk ⊢
  split
  · rename_i h0
    rw [if_pos h0] at hk
    exact ⟨⟨hk, h2, h3, h4, fun _ => h0⟩, by simp, by simp⟩
  · rename_i h0
    rw [if_neg h0] at hk
    exact ⟨⟨hk, h2, h3, by dsimp only; omega, fun q => absurd (ho.symm.trans q) (by decide)⟩, by simp [ho], fun _ => ho⟩
theorem Fz.add {n : Int} {d : DDisk} {s : DStep} (h : Fz n d) (hk : okD (addP d s)) : Fz n (addP d s) := ⟨hk, h.made, h.has, h.sum, h.off⟩
/-- What a call leaves: e the answer, d' the disk behind it. -/
structure Fs (n : Int) (d d' : DDisk) (e : Int) : Prop where
  fz : Fz n d'
  off : e = 6 ↔ d'.2.1 = true
  arg : e = 2 → d' = d
theorem Fs.wrong {n : Int} {d : DDisk} (h : Fz n d) (hw : ¬ wrongD d = 0) : Fs n d d (wrongD d) := by
  have hm : ¬ d.1 = false := by rw [h.made]; decide
  unfold wrongD at hw ⊢
  rw [if_neg hm] at hw ⊢
  by_cases ho : d.2.1 = true
  · rw [if_pos ho]; exact ⟨h, by simp [ho], fun q => by cases q⟩
  · rw [if_neg ho] at hw; exact absurd rfl hw
theorem on_of {n : Int} {d : DDisk} (h : Fz n d) (hw : wrongD d = 0) : d.2.1 = false := by
  have hm : ¬ d.1 = false := by rw [h.made]; decide
  unfold wrongD at hw
  rw [if_neg hm] at hw
  by_cases ho : d.2.1 = true
  · rw [if_pos ho] at hw; cases hw
  · simpa using ho
theorem Fs.cut {n : Int} {d : DDisk} {f k : Int} (h : Fz n d) : Fs n d (dCut d f k).1 (dCut d f k).2 := by
  have hk := cut_ok (f := f) (n := k) h.ok
  unfold dCut at hk ⊢
  split
  · rename_i hw; exact Fs.wrong h hw
  · rename_i hw
    have ho := on_of h (Decidable.not_not.1 hw)
    obtain ⟨k1, k2, k3⟩ := h.burn ho
    split
    · exact ⟨h, by simp [ho], fun _ => rfl⟩
    · rename_i hf
      rw [if_neg hw, if_neg hf] at hk
      split
      · rename_i hb
        rw [if_pos hb] at hk
        exact ⟨k1.add hk, by show (0 : Int) = 6 ↔ (burnD d).1.2.1 = true; simp [k3 hb], fun q => by cases q⟩
      · rename_i hb
        refine ⟨k1, ?_, fun q => by cases q⟩
        have : (burnD d).1.2.1 = true := by
          cases hc : (burnD d).1.2.1 with
          | true => rfl
          | false => exact absurd (k2.2 hc) hb
        simp [this]
section
variable {d : DDisk}
theorem wrongU (h : d.1 = false) : wrongD d = 1 := if_pos h
theorem wrongU' (h : d.1 = false) : ¬ wrongD d = 0 := by rw [wrongU h]; decide
theorem cutU {f n : Int} (h : d.1 = false) : dCut d f n = (d, 1) := by rw [cut_bad1 (wrongU' h), wrongU h]
theorem syncU (h : d.1 = false) : dSync d = (d, 1) := by rw [sync_bad (wrongU' h), wrongU h]
theorem fuseU {n : Int} (h : d.1 = false) : dFuse d n = (d, 1) := by unfold dFuse; rw [if_pos (wrongU' h), wrongU h]
theorem safeU (h : d.1 = false) : dSafe d = (d, 1) := by unfold dSafe; rw [if_pos (wrongU' h), wrongU h]
theorem pullU (h : d.1 = false) : dPull d = (d, 1) := by unfold dPull; rw [if_pos (wrongU' h), wrongU h]
end
end
section
set_option linter.unusedVariables false
set_option linter.unusedSimpArgs false
set_option maxRecDepth 4000
theorem fnOk10 : fnOk Try.prog 10 = true := by kernel_rfl
theorem fnOk11 : fnOk Try.prog 11 = true := by kernel_rfl
theorem fnOk12 : fnOk Try.prog 12 = true := by kernel_rfl
theorem fnOk13 : fnOk Try.prog 13 = true := by kernel_rfl
theorem fnOk14 : fnOk Try.prog 14 = true := by kernel_rfl
theorem fnOk16 : fnOk Try.prog 16 = true := by kernel_rfl
theorem fnOk17 : fnOk Try.prog 17 = true := by kernel_rfl
theorem fnOk18 : fnOk Try.prog 18 = true := by kernel_rfl
theorem fnOk22 : fnOk Try.prog 22 = true := by kernel_rfl
theorem fnOk25 : fnOk Try.prog 25 = true := by kernel_rfl
theorem fnOk26 : fnOk Try.prog 26 = true := by kernel_rfl
theorem tst31 : tst Try.prog 31 = some [(0, 1), (1, 1), (2, 1), (3, 1), (4, 1)] := by kernel_rfl
theorem done05N_ok (W : World) {v1 : List Value} {d1 : Dlaw05Act} (h1 : Rd Tlaw05Act (wm W) v1 d1) {v2 : Value} {d2 : List UInt8} (h2 : Rd (.sl .byte) (wm W) [v2] d2) : CallR Try.prog 29 [.pointer none, .agg v1.toArray, v2] W (mnil) (fun v m' => v = .int .i64 (1)) := by
  obtain ⟨p1_A4, p1_c4, rfl, p1_0, p1_1, p1_2, p1_3, p1_4⟩ := open_law05Act (x0 := d1.1) (x1 := d1.2.1) (x2 := d1.2.2.1) (x3 := d1.2.2.2.1) (x4 := d1.2.2.2.2) h1
  simp only [inK] at p1_0
  simp only [inK] at p1_1
  simp only [inK] at p1_2
  simp only [inK] at p1_3
  have p1_r4 := Rd.room p1_4
  obtain ⟨A2, c2, rfl, l2, k2⟩ := h2.slice
  simp only [maxLen] at k2
  refine CallR.ofA (n := 49) Try.func29 rfl rfl rfl ?_
  refine VC.rs ?_
  refine VO.box (cs := [Value.int .i64 (d1.1), Value.int .i64 (d1.2.1), Value.int .i64 (d1.2.2.1), Value.int .i64 (d1.2.2.2.1), Value.slice p1_A4 (d1.2.2.2.2.length) (p1_c4)]) 102 rfl rfl rfl (fun g1 => ?_)
  refine VO.as ?_
  refine VO.k5 0 1 2 4 6 ?_
  refine VC.seq ?_
  refine VC.rs ?_
  refine VO.y rfl (.fa rfl tst31 rfl) ?_
  refine VO.y rfl (.ld1 102 rfl tk3 rfl (cellsAt_one rfl rfl)) ?_
  refine VO.callN 103 rfl fnOk11 rfl (fun W hW => pick_ok W d1.1 bdk 7 bdk bd) (fun v3 m3 hv3 => ?_)
  subst hv3
  have hfa4 := pickI_bounds d1.1 7 (by omega)
  refine VO.k6 0 1 2 4 6 9 ?_
  refine VC.block ?_
  refine VC.rs ?_
  refine VO.y rfl (.eql rfl rfl) ?_
  refine VO.as ?_
  refine VO.keep [102, 0] [(102, mone g1 (.cells [Value.int .i64 (d1.1), Value.int .i64 (d1.2.1), Value.int .i64 (d1.2.2.1), Value.int .i64 (d1.2.2.2.1), Value.slice p1_A4 (d1.2.2.2.2.length) (p1_c4)].toArray 31 (0, 0))), (0, wm W)] (by kernel_rfl) ?_
  refine VO.k7 0 1 2 4 6 9 10 ?_
  refine VC.cond rfl (fun hc5 => ?_) (fun hc5 => ?_)
  · -- T
    refine VC.rs ?_
    refine VO.mv ?_
    refine VO.y rfl (.fa rfl tst31 rfl) ?_
    refine VO.y rfl (.ld1 102 rfl tk3 rfl (cellsAt_one rfl rfl)) ?_
    refine VO.mv ?_
    refine VO.callN 106 rfl fnOk14 rfl (fun W hW => dWriteN_ok W d1.2.1 bdk (Rd.mono h2 (hW.at (i := 0) rfl))) (fun v6 m6 hv6 => ?_)
    subst hv6
    refine VO.as ?_
    refine VO.k7 0 1 2 4 6 9 10 ?_
    refine VC.ret ?_
    refine outBR ?_
    refine outR ?_
    refine ⟨_, _, res_run (rs := [.tmp 6]) rfl (.tmp rfl .nil), fun W_ hI => out_of (l := []) hI [] rfl rfl (mle_refl _) (fun hS_ => ?_)⟩
    dsimp only [packV]
    all_goals (first | rfl | (simp [*]; done))
  · -- F
    refine VC.rs ?_
    refine VO.y rfl (.eql rfl rfl) ?_
    refine VO.as ?_
    refine VO.k8 0 1 2 4 6 9 10 17 ?_
    refine VC.cond rfl (fun hc7 => ?_) (fun hc7 => ?_)
    · -- FT
      refine VC.rs ?_
      refine VO.mv ?_
      refine VO.y rfl (.fa rfl tst31 rfl) ?_
      refine VO.y rfl (.ld1 102 rfl tk3 rfl (cellsAt_one rfl rfl)) ?_
      refine VO.y rfl (.fa rfl tst31 rfl) ?_
      refine VO.y rfl (.ld1 102 rfl tk3 rfl (cellsAt_one rfl rfl)) ?_
      refine VO.callN 108 rfl fnOk25 rfl (fun W hW => dCutN_ok W d1.2.1 bdk d1.2.2.1 bdk) (fun v8 m8 hv8 => ?_)
      subst hv8
      refine VO.as ?_
      refine VO.k8 0 1 2 4 6 9 10 17 ?_
      refine VC.ret ?_
      refine outBR ?_
      refine outR ?_
      refine ⟨_, _, res_run (rs := [.tmp 6]) rfl (.tmp rfl .nil), fun W_ hI => out_of (l := []) hI [] rfl rfl (mle_refl _) (fun hS_ => ?_)⟩
      dsimp only [packV]
      all_goals (first | rfl | (simp [*]; done))
    · -- FF
      refine VC.rs ?_
      refine VO.y rfl (.eql rfl rfl) ?_
      refine VO.as ?_
      refine VO.k9 0 1 2 4 6 9 10 17 25 ?_
      refine VC.cond rfl (fun hc9 => ?_) (fun hc9 => ?_)
      · -- FFT
        refine VC.rs ?_
        refine VO.mv ?_
        refine VO.callN 110 rfl fnOk12 rfl (fun W hW => dSyncN_ok W ) (fun v10 m10 hv10 => ?_)
        subst hv10
        refine VO.as ?_
        refine VO.keep [102, 0] [(102, mone g1 (.cells [Value.int .i64 (d1.1), Value.int .i64 (d1.2.1), Value.int .i64 (d1.2.2.1), Value.int .i64 (d1.2.2.2.1), Value.slice p1_A4 (d1.2.2.2.2.length) (p1_c4)].toArray 31 (0, 0))), (0, wm W)] (by kernel_rfl) ?_
        refine VO.k9 0 1 2 4 6 9 10 17 25 ?_
        refine VC.ret ?_
        refine outBR ?_
        refine outR ?_
        refine ⟨_, _, res_run (rs := [.tmp 6]) rfl (.tmp rfl .nil), fun W_ hI => out_of (l := []) hI [] rfl rfl (mle_refl _) (fun hS_ => ?_)⟩
        dsimp only [packV]
        all_goals (first | rfl | (simp [*]; done))
      · -- FFF
        refine VC.rs ?_
        refine VO.y rfl (.eql rfl rfl) ?_
        refine VO.as ?_
        refine VO.keep [102, 0] [(102, mone g1 (.cells [Value.int .i64 (d1.1), Value.int .i64 (d1.2.1), Value.int .i64 (d1.2.2.1), Value.int .i64 (d1.2.2.2.1), Value.slice p1_A4 (d1.2.2.2.2.length) (p1_c4)].toArray 31 (0, 0))), (0, wm W)] (by kernel_rfl) ?_
        refine VO.k10 0 1 2 4 6 9 10 17 25 29 ?_
        refine VC.cond rfl (fun hc11 => ?_) (fun hc11 => ?_)
        · -- FFFT
          refine VC.rs ?_
          refine VO.mv ?_
          refine VO.y rfl (.fa rfl tst31 rfl) ?_
          refine VO.y rfl (.ld1 102 rfl tk3 rfl (cellsAt_one rfl rfl)) ?_
          refine VO.callN 112 rfl fnOk22 rfl (fun W hW => dFuseN_ok W d1.2.2.1 bdk) (fun v12 m12 hv12 => ?_)
          subst hv12
          refine VO.as ?_
          refine VO.k10 0 1 2 4 6 9 10 17 25 29 ?_
          refine VC.ret ?_
          refine outBR ?_
          refine outR ?_
          refine ⟨_, _, res_run (rs := [.tmp 6]) rfl (.tmp rfl .nil), fun W_ hI => out_of (l := []) hI [] rfl rfl (mle_refl _) (fun hS_ => ?_)⟩
          dsimp only [packV]
          all_goals (first | rfl | (simp [*]; done))
        · -- FFFF
          refine VC.rs ?_
          refine VO.y rfl (.eql rfl rfl) ?_
          refine VO.as ?_
          refine VO.k11 0 1 2 4 6 9 10 17 25 29 35 ?_
          refine VC.cond rfl (fun hc13 => ?_) (fun hc13 => ?_)
          · -- FFFFT
            refine VC.rs ?_
            refine VO.mv ?_
            refine VO.callN 114 rfl fnOk16 rfl (fun W hW => dPullN_ok W ) (fun v14 m14 hv14 => ?_)
            subst hv14
            refine VO.as ?_
            refine VO.k11 0 1 2 4 6 9 10 17 25 29 35 ?_
            refine VC.ret ?_
            refine outBR ?_
            refine outR ?_
            refine ⟨_, _, res_run (rs := [.tmp 6]) rfl (.tmp rfl .nil), fun W_ hI => out_of (l := []) hI [] rfl rfl (mle_refl _) (fun hS_ => ?_)⟩
            dsimp only [packV]
            all_goals (first | rfl | (simp [*]; done))
          · -- FFFFF
            refine VC.rs ?_
            refine VO.y rfl (.eql rfl rfl) ?_
            refine VO.as ?_
            refine VO.k12 0 1 2 4 6 9 10 17 25 29 35 39 ?_
            refine VC.cond rfl (fun hc15 => ?_) (fun hc15 => ?_)
            · -- FFFFFT
              refine VC.rs ?_
              refine VO.mv ?_
              refine VO.y rfl (.fa rfl tst31 rfl) ?_
              refine VO.y rfl (.ld1 102 rfl tk3 rfl (cellsAt_one rfl rfl)) ?_
              refine VO.y rfl (.fa rfl tst31 rfl) ?_
              refine VO.y rfl (.ld1 102 rfl tk3 rfl (cellsAt_one rfl rfl)) ?_
              refine VO.callN 116 rfl fnOk17 rfl (fun W hW => dStartN_ok W d1.2.2.1 bdk d1.2.2.2.1 bdk) (fun v16 m16 hv16 => ?_)
              subst hv16
              refine VO.as ?_
              refine VO.keep [102, 0] [(102, mone g1 (.cells [Value.int .i64 (d1.1), Value.int .i64 (d1.2.1), Value.int .i64 (d1.2.2.1), Value.int .i64 (d1.2.2.2.1), Value.slice p1_A4 (d1.2.2.2.2.length) (p1_c4)].toArray 31 (0, 0))), (0, wm W)] (by kernel_rfl) ?_
              refine VO.k12 0 1 2 4 6 9 10 17 25 29 35 39 ?_
              refine VC.ret ?_
              refine outBR ?_
              refine outR ?_
              refine ⟨_, _, res_run (rs := [.tmp 6]) rfl (.tmp rfl .nil), fun W_ hI => out_of (l := []) hI [] rfl rfl (mle_refl _) (fun hS_ => ?_)⟩
              dsimp only [packV]
              all_goals (first | rfl | (simp [*]; done))
            · -- FFFFFF
              refine VC.skip ?_
              refine outBN ?_
              refine outN ?_
              refine VC.rs ?_
              refine VO.mv ?_
              refine VO.callN 117 rfl fnOk26 rfl (fun W hW => dSafeN_ok W ) (fun v17 m17 hv17 => ?_)
              subst hv17
              refine VO.as ?_
              refine VO.keep [102, 0] [(102, mone g1 (.cells [Value.int .i64 (d1.1), Value.int .i64 (d1.2.1), Value.int .i64 (d1.2.2.1), Value.int .i64 (d1.2.2.2.1), Value.slice p1_A4 (d1.2.2.2.2.length) (p1_c4)].toArray 31 (0, 0))), (0, wm W)] (by kernel_rfl) ?_
              refine VO.k12 0 1 2 4 6 9 10 17 25 29 35 39 ?_
              refine VC.ret ?_
              refine ⟨_, _, res_run (rs := [.tmp 6]) rfl (.tmp rfl .nil), fun W_ hI => out_of (l := []) hI [] rfl rfl (mle_refl _) (fun hS_ => ?_)⟩
              dsimp only [packV]
              all_goals (first | rfl | (simp [*]; done))
set_option maxHeartbeats 4000000 in
theorem lives05_ok (W : World) : CallR Try.prog 8 [] W (mnil) (fun v m' => v = .bool true) := by
  refine CallR.ofA (n := 40) Try.func8 rfl rfl rfl ?_
  refine VC.rs ?_
  refine VO.as ?_
  refine VO.k1 0 ?_
  refine VC.rs ?_
  refine VO.callN 101 rfl fnOk10 rfl (fun W hW => dNew_ok W ) (fun v1 m1 hv1 => ?_)
  obtain ⟨s1_0, rfl, f1_0⟩ := hv1
  have hfa2 := okD_new
  have hfa3 := (show wD newD = 0 from rfl)
  refine VO.as ?_
  refine VO.k2 0 1 ?_
  refine VC.seq ?_
  refine VC.rs ?_
  refine VO.mv ?_
  refine VO.y rfl (.pnil rfl rfl Try.underlying25 rfl) ?_
  refine VO.mv ?_
  refine VO.gy rfl ⟨_, rfl, rfl⟩ (.mv rfl) ?_
  refine VO.gmks (e := .byte) (a := 70) (k := 70) 104 rfl ⟨_, rfl, rfl⟩ rfl rfl rfl tsl27 tz5 (y := UInt8.ofNat 0) (Ow.of (m := mnil) rfl (rd_byteN (by first | omega | (simp only [List.length_append, List.length_nil, List.length_cons, List.length_take, List.length_drop] at *; omega) | decide))) (by simp only [maxLen]; (first | omega | (simp only [List.length_append, List.length_nil, List.length_cons, List.length_take, List.length_drop] at *; omega) | decide)) (by first | omega | (simp only [List.length_append, List.length_nil, List.length_cons, List.length_take, List.length_drop] at *; omega) | decide) (by decide) (fun v4 m4 hk4 => ?_)
  obtain ⟨A4, c4, rfl, l4, k4⟩ := hk4.slice
  simp only [maxLen] at k4
  have ln4 : (List.replicate 70 (UInt8.ofNat 0 : UInt8)).length = 70 := List.length_replicate
  refine VO.gcall 101 rfl ⟨_, rfl, rfl⟩ fnOk14 rfl rfl (fun W hW => dWrite_ok W (hW.at (i := 101) rfl) f1_0 0 (by simp only [inK]; (first | omega | (simp only [List.length_append, List.length_nil, List.length_cons, List.length_take, List.length_drop] at *; omega) | decide)) (OwnL.rd (Ow.ownl hk4 rfl mnil) (hW.out (i := 101) (j := 104) rfl rfl) (mle_nil _)) (by assumption) (by first | omega | (simp only [List.length_append, List.length_nil, List.length_cons, List.length_take, List.length_drop] at *; omega) | decide)) (fun v5 m5 hv5 => ?_)
  obtain ⟨rfl, w5_0⟩ := hv5
  have hfa6 := (write_ok (f := 0) (b := (List.replicate 70 (UInt8.ofNat 0 : UInt8))) (show okD newD by assumption))
  have hfa7 := (write_w (f := 0) (b := (List.replicate 70 (UInt8.ofNat 0 : UInt8))) (show okD newD by assumption))
  refine VO.gy rfl ⟨_, rfl, rfl⟩ (.neq rfl rfl) ?_
  refine VO.y rfl (.pF rfl rfl) ?_
  refine VO.mv ?_
  refine VO.dec (t := 13) rfl (fun hc8 => ?_) (fun hc8 => ?_)
  · -- T
    exact absurd (by decide) hc8
  · -- F
    refine VO.gy rfl ⟨_, rfl, rfl⟩ (.mv rfl) ?_
    refine VO.gcall 101 rfl ⟨_, rfl, rfl⟩ fnOk13 rfl rfl (fun W hW => dPending_ok W (hW.at (i := 101) rfl) w5_0) (fun v9 m9 hv9 => ?_)
    obtain ⟨rfl, w9_0⟩ := hv9
    refine VO.gy rfl ⟨_, rfl, rfl⟩ (.neq rfl rfl) ?_
    refine VO.y rfl (.pF rfl rfl) ?_
    refine VO.mv ?_
    refine VO.dec (t := 18) rfl (fun hc10 => ?_) (fun hc10 => ?_)
    · -- FT
      exact absurd (by decide) hc10
    · -- FF
      refine VO.gy rfl ⟨_, rfl, rfl⟩ (.mv rfl) ?_
      refine VO.gcall 101 rfl ⟨_, rfl, rfl⟩ fnOk16 rfl rfl (fun W hW => dPull_ok W (hW.at (i := 101) rfl) w9_0 (by assumption)) (fun v11 m11 hv11 => ?_)
      obtain ⟨rfl, w11_0⟩ := hv11
      have hfa12 := (pull_ok (show okD ((dWrite newD 0 (List.replicate 70 (UInt8.ofNat 0 : UInt8))).1) by assumption))
      have hfa13 := (pull_w ((dWrite newD 0 (List.replicate 70 (UInt8.ofNat 0 : UInt8))).1))
      refine VO.gy rfl ⟨_, rfl, rfl⟩ (.neq rfl rfl) ?_
      refine VO.y rfl (.pF rfl rfl) ?_
      refine VO.mv ?_
      refine VO.dec (t := 23) rfl (fun hc14 => ?_) (fun hc14 => ?_)
      · -- FFT
        exact absurd (by decide) hc14
      · -- FFF
        refine VO.gy rfl ⟨_, rfl, rfl⟩ (.mv rfl) ?_
        refine VO.gcall 101 rfl ⟨_, rfl, rfl⟩ fnOk17 rfl rfl (fun W hW => dStart_ok W (hW.at (i := 101) rfl) w11_0 1 (by simp only [inK]; (first | omega | (simp only [List.length_append, List.length_nil, List.length_cons, List.length_take, List.length_drop] at *; omega) | decide)) 3 (by simp only [inK]; (first | omega | (simp only [List.length_append, List.length_nil, List.length_cons, List.length_take, List.length_drop] at *; omega) | decide)) (by assumption) (by first | omega | (simp only [List.length_append, List.length_nil, List.length_cons, List.length_take, List.length_drop] at *; omega) | decide)) (fun v15 m15 hv15 => ?_)
        obtain ⟨rfl, w15_0⟩ := hv15
        have hfa16 := (start_ok (k := 1) (t := 3) (show okD ((dPull ((dWrite newD 0 (List.replicate 70 (UInt8.ofNat 0 : UInt8))).1)).1) by assumption))
        have hfa17 := (start_w ((dPull ((dWrite newD 0 (List.replicate 70 (UInt8.ofNat 0 : UInt8))).1)).1) 1 3)
        refine VO.gy rfl ⟨_, rfl, rfl⟩ (.neq rfl rfl) ?_
        refine VO.y rfl (.pF rfl rfl) ?_
        refine VO.keep [101, 0] [(101, m15), (0, wm W)] (by kernel_rfl) ?_
        refine VO.k3 0 1 27 ?_
        refine VC.cond rfl (fun hc18 => ?_) (fun hc18 => ?_)
        · -- FFFT
          exact absurd (by decide) hc18
        · -- FFFF
          refine VC.skip ?_
          refine outN ?_
          refine VC.rs ?_
          refine VO.mv ?_
          refine VO.call 101 rfl fnOk18 rfl rfl (fun W hW => dRead_ok W (hW.at (i := 101) rfl) w15_0 0 (by simp only [inK]; (first | omega | (simp only [List.length_append, List.length_nil, List.length_cons, List.length_take, List.length_drop] at *; omega) | decide)) (by assumption) (by first | omega | (simp only [List.length_append, List.length_nil, List.length_cons, List.length_take, List.length_drop] at *; omega) | decide)) (fun v19 m19 hv19 => ?_)
          obtain ⟨s19_0, p19_0, p19_1, rfl, hS19, f19_0, w19_0⟩ := hv19
          refine VO.inv _ (fun _ h => h.parts (i := 101) rfl hS19 [120, 121]) ?_
          have hfa22 := (read_size ((dStart ((dPull ((dWrite newD 0 (List.replicate 70 (UInt8.ofNat 0 : UInt8))).1)).1) 1 3).1) 0)
          generalize hq19_0 : ((dRead ((dStart ((dPull ((dWrite newD 0 (List.replicate 70 (UInt8.ofNat 0 : UInt8))).1)).1) 1 3).1) 0).1) = r19_0 at f19_0
          obtain ⟨A19_0, c19_0, eq19_0, l19_0, k19_0⟩ := f19_0.slice
          subst eq19_0
          simp only [maxLen] at k19_0
          refine VO.mv ?_
          refine VO.y rfl (.ext rfl rfl) ?_
          refine VO.y rfl (.ext rfl rfl) ?_
          refine VO.as ?_
          refine VO.as ?_
          refine VO.k5 0 1 2 3 27 ?_
          refine VC.rs ?_
          refine VO.mv ?_
          refine VO.y rfl (.eql rfl rfl) ?_
          refine VO.mv ?_
          refine VO.dec (t := 35) rfl (fun hc23 => ?_) (fun hc23 => ?_)
          · -- FFFFT
            refine VO.gy rfl ⟨_, rfl, rfl⟩ (.mv rfl) ?_
            refine VO.gy rfl ⟨_, rfl, rfl⟩ (.lenS rfl tsl27) ?_
            refine VO.gy rfl ⟨_, rfl, rfl⟩ (.eql rfl rfl) ?_
            refine VO.y rfl (.pT rfl rfl) ?_
            refine VO.as ?_
            refine VO.k5 0 1 2 3 27 ?_
            refine VC.ret ?_
            refine ⟨_, _, res_run (rs := [.tmp 0]) rfl (.tmp rfl .nil), fun W_ hI => out_of (l := []) hI [] rfl rfl (mle_refl _) (fun hS_ => ?_)⟩
            dsimp only [packV]
            all_goals (first | rfl | (subst_vars; first | exact congrArg Value.bool (decide_eq_true (by decide)) | exact congrArg Value.bool (decide_eq_true (by rfl)) | exact absurd (by decide) (by assumption)))
          · -- FFFFF
            exact absurd (by decide) hc23
end
section
set_option linter.unusedVariables false
set_option linter.unusedSimpArgs false
set_option maxRecDepth 4000
theorem fnOk21 : fnOk Try.prog 21 = true := by kernel_rfl
theorem fnOk23 : fnOk Try.prog 23 = true := by kernel_rfl
theorem fnOk24 : fnOk Try.prog 24 = true := by kernel_rfl
theorem fnOk29 : fnOk Try.prog 29 = true := by kernel_rfl
theorem fnOk8 : fnOk Try.prog 8 = true := by kernel_rfl
theorem tk25 : tk Try.prog 25 = some none := by kernel_rfl
theorem tk31 : tk Try.prog 31 = some (some 5) := by kernel_rfl
theorem tsl59 : tsl Try.prog 59 = some (25, 1, 8) := by kernel_rfl
theorem tz25 : tz Try.prog 25 = some [.pointer none] := by kernel_rfl
theorem dWriteU_ok (W : World) {m0 : Mem} (hm : mle (m0) (wm W)) {g0 : Nat} {d0 : DdiskDisk} (h0 : Ow (.ptr TdiskDisk) m0 [.pointer (some ⟨g0, 0, none⟩)] (g0, d0)) (d1 : Int) (h1 : inK .i64 d1) {v2 : Value} {d2 : List UInt8} (h2 : Rd (.sl .byte) (mout (wm W) (m0)) [v2] d2) (e0 : d0.1 = false) : CallR Try.prog 14 [.pointer (some ⟨g0, 0, none⟩), .int .i64 d1, v2] W (m0) (fun v m' => v = .int .i64 (1) ∧ Ow (.ptr TdiskDisk) m' [.pointer (some ⟨g0, 0, none⟩)] (g0, d0)) := by
  have h1' := h1; simp only [inK] at h1'
  obtain ⟨A2, c2, rfl, l2, k2⟩ := h2.slice
  simp only [maxLen] at k2
  refine CallR.ofB (n := 44) hm Try.func14 rfl rfl rfl ?_
  refine VC.rs ?_
  refine VO.as ?_
  refine VO.k4 0 1 2 6 ?_
  refine VC.seq ?_
  refine VC.rs ?_
  refine VO.mv ?_
  refine VO.call 1 rfl fnOk35 rfl rfl (fun W hW => dWrong_ok W (hW.at (i := 1) rfl) h0) (fun v1 m1 hv1 => ?_)
  obtain ⟨rfl, w1_0⟩ := hv1
  refine VO.as ?_
  refine VO.k5 0 1 2 6 7 ?_
  refine VC.rs ?_
  refine VO.mv ?_
  refine VO.y rfl (.neq rfl rfl) ?_
  refine VO.keep [1, 0] [(1, m1), (0, mout (wm W) (m0))] (by kernel_rfl) ?_
  refine VO.k6 0 1 2 6 7 12 ?_
  refine VC.cond rfl (fun hc2 => ?_) (fun hc2 => ?_)
  · -- T
    refine VC.rs ?_
    refine VO.mv ?_
    refine VO.as ?_
    refine VO.k6 0 1 2 6 7 12 ?_
    refine VC.ret ?_
    refine outR ?_
    refine ⟨_, _, res_run (rs := [.tmp 6]) rfl (.tmp rfl .nil), fun W_ hI => out_of (l := [m1]) hI [1] rfl rfl (mle_refl _) (fun hS_ => ?_)⟩
    dsimp only [packV]
    have hm0_ : (d0 : DdiskDisk) = d0 := by first | rfl | (simp [*]; done)
    refine ⟨?_, ?_⟩
    rotate_left
    · rw [hm0_]; exact (Ow.up w1_0 (hS_.1 _ (.head _)))
    all_goals (first | rfl | ((unfold wrongD; rw [if_pos e0])))
  · -- F
    exact absurd (by unfold wrongD; rw [if_pos e0]; decide) hc2
theorem fin0_done05U_ok {P : Prop} (h : P := by first | rfl | (rw [cutU (by assumption)] <;> rfl) | (rw [syncU (by assumption)] <;> rfl) | (rw [fuseU (by assumption)] <;> rfl) | (rw [safeU (by assumption)] <;> rfl) | (rw [pullU (by assumption)] <;> rfl) | (rw [start_bad1 (by assumption)] <;> rfl)) : P := h
theorem done05U_ok (W : World) {m0 : Mem} (hm : mle (m0) (wm W)) {g0 : Nat} {d0 : DdiskDisk} (h0 : Ow (.ptr TdiskDisk) m0 [.pointer (some ⟨g0, 0, none⟩)] (g0, d0)) {v1 : List Value} {d1 : Dlaw05Act} (h1 : Rd Tlaw05Act (mout (wm W) (m0)) v1 d1) {v2 : Value} {d2 : List UInt8} (h2 : Rd (.sl .byte) (mout (wm W) (m0)) [v2] d2) (e0 : okD d0) (e1 : wD d0 ≤ 1000000000000) (e2 : d0.1 = false) : CallR Try.prog 29 [.pointer (some ⟨g0, 0, none⟩), .agg v1.toArray, v2] W (m0) (fun v m' => v = .int .i64 (1) ∧ Ow (.ptr TdiskDisk) m' [.pointer (some ⟨g0, 0, none⟩)] (g0, d0)) := by
  obtain ⟨p1_A4, p1_c4, rfl, p1_0, p1_1, p1_2, p1_3, p1_4⟩ := open_law05Act (x0 := d1.1) (x1 := d1.2.1) (x2 := d1.2.2.1) (x3 := d1.2.2.2.1) (x4 := d1.2.2.2.2) h1
  simp only [inK] at p1_0
  simp only [inK] at p1_1
  simp only [inK] at p1_2
  simp only [inK] at p1_3
  have p1_r4 := Rd.room p1_4
  obtain ⟨A2, c2, rfl, l2, k2⟩ := h2.slice
  simp only [maxLen] at k2
  refine CallR.ofB (n := 49) hm Try.func29 rfl rfl rfl ?_
  refine VC.rs ?_
  refine VO.box (cs := [Value.int .i64 (d1.1), Value.int .i64 (d1.2.1), Value.int .i64 (d1.2.2.1), Value.int .i64 (d1.2.2.2.1), Value.slice p1_A4 (d1.2.2.2.2.length) (p1_c4)]) 102 rfl rfl rfl (fun g1 => ?_)
  refine VO.as ?_
  refine VO.k5 0 1 2 4 6 ?_
  refine VC.seq ?_
  refine VC.rs ?_
  refine VO.y rfl (.fa rfl tst31 rfl) ?_
  refine VO.y rfl (.ld1 102 rfl tk3 rfl (cellsAt_one rfl rfl)) ?_
  refine VO.callN 103 rfl fnOk11 rfl (fun W hW => pick_ok W d1.1 bdk 7 bdk bd) (fun v3 m3 hv3 => ?_)
  subst hv3
  have hfa4 := pickI_bounds d1.1 7 (by omega)
  refine VO.k6 0 1 2 4 6 9 ?_
  refine VC.block ?_
  refine VC.rs ?_
  refine VO.y rfl (.eql rfl rfl) ?_
  refine VO.as ?_
  refine VO.keep [102, 0, 1] [(102, mone g1 (.cells [Value.int .i64 (d1.1), Value.int .i64 (d1.2.1), Value.int .i64 (d1.2.2.1), Value.int .i64 (d1.2.2.2.1), Value.slice p1_A4 (d1.2.2.2.2.length) (p1_c4)].toArray 31 (0, 0))), (0, mout (wm W) (m0)), (1, m0)] (by kernel_rfl) ?_
  refine VO.k7 0 1 2 4 6 9 10 ?_
  refine VC.cond rfl (fun hc5 => ?_) (fun hc5 => ?_)
  · -- T
    refine VC.rs ?_
    refine VO.mv ?_
    refine VO.y rfl (.fa rfl tst31 rfl) ?_
    refine VO.y rfl (.ld1 102 rfl tk3 rfl (cellsAt_one rfl rfl)) ?_
    refine VO.mv ?_
    refine VO.call 1 rfl fnOk14 rfl rfl (fun W hW => dWriteU_ok W (hW.at (i := 1) rfl) h0 d1.2.1 bdk (Rd.mono h2 (hW.out (i := 1) (j := 0) rfl rfl)) (by assumption)) (fun v6 m6 hv6 => ?_)
    obtain ⟨rfl, w6_0⟩ := hv6
    refine VO.as ?_
    refine VO.k7 0 1 2 4 6 9 10 ?_
    refine VC.ret ?_
    refine outBR ?_
    refine outR ?_
    refine ⟨_, _, res_run (rs := [.tmp 6]) rfl (.tmp rfl .nil), fun W_ hI => out_of (l := [m6]) hI [1] rfl rfl (mle_refl _) (fun hS_ => ?_)⟩
    dsimp only [packV]
    have hm0_ : (d0 : DdiskDisk) = d0 := by first | rfl | (exact fin0_done05U_ok)
    refine ⟨?_, ?_⟩
    rotate_left
    · rw [hm0_]; exact (Ow.up w6_0 (hS_.1 _ (.head _)))
    all_goals (first | rfl | (exact fin0_done05U_ok))
  · -- F
    refine VC.rs ?_
    refine VO.y rfl (.eql rfl rfl) ?_
    refine VO.as ?_
    refine VO.k8 0 1 2 4 6 9 10 17 ?_
    refine VC.cond rfl (fun hc7 => ?_) (fun hc7 => ?_)
    · -- FT
      refine VC.rs ?_
      refine VO.mv ?_
      refine VO.y rfl (.fa rfl tst31 rfl) ?_
      refine VO.y rfl (.ld1 102 rfl tk3 rfl (cellsAt_one rfl rfl)) ?_
      refine VO.y rfl (.fa rfl tst31 rfl) ?_
      refine VO.y rfl (.ld1 102 rfl tk3 rfl (cellsAt_one rfl rfl)) ?_
      refine VO.call 1 rfl fnOk25 rfl rfl (fun W hW => dCut_ok W (hW.at (i := 1) rfl) h0 d1.2.1 bdk d1.2.2.1 bdk (by assumption) bd) (fun v8 m8 hv8 => ?_)
      obtain ⟨rfl, w8_0⟩ := hv8
      have hfa9 := (cut_ok (f := d1.2.1) (n := d1.2.2.1) (show okD d0 by assumption))
      have hfa10 := (cut_w (f := d1.2.1) (n := d1.2.2.1) (show okD d0 by assumption))
      refine VO.as ?_
      refine VO.k8 0 1 2 4 6 9 10 17 ?_
      refine VC.ret ?_
      refine outBR ?_
      refine outR ?_
      refine ⟨_, _, res_run (rs := [.tmp 6]) rfl (.tmp rfl .nil), fun W_ hI => out_of (l := [m8]) hI [1] rfl rfl (mle_refl _) (fun hS_ => ?_)⟩
      dsimp only [packV]
      have hm0_ : (d0 : DdiskDisk) = (dCut d0 d1.2.1 d1.2.2.1).1 := by first | rfl | (exact fin0_done05U_ok)
      refine ⟨?_, ?_⟩
      rotate_left
      · rw [hm0_]; exact (Ow.up w8_0 (hS_.1 _ (.head _)))
      all_goals (first | rfl | (exact fin0_done05U_ok))
    · -- FF
      refine VC.rs ?_
      refine VO.y rfl (.eql rfl rfl) ?_
      refine VO.as ?_
      refine VO.k9 0 1 2 4 6 9 10 17 25 ?_
      refine VC.cond rfl (fun hc11 => ?_) (fun hc11 => ?_)
      · -- FFT
        refine VC.rs ?_
        refine VO.mv ?_
        refine VO.call 1 rfl fnOk12 rfl rfl (fun W hW => dSync_ok W (hW.at (i := 1) rfl) h0 (by assumption) bd) (fun v12 m12 hv12 => ?_)
        obtain ⟨rfl, w12_0⟩ := hv12
        have hfa13 := (sync_ok (show okD d0 by assumption))
        have hfa14 := (sync_w (show okD d0 by assumption))
        refine VO.as ?_
        refine VO.keep [1, 102, 0] [(1, m12), (102, mone g1 (.cells [Value.int .i64 (d1.1), Value.int .i64 (d1.2.1), Value.int .i64 (d1.2.2.1), Value.int .i64 (d1.2.2.2.1), Value.slice p1_A4 (d1.2.2.2.2.length) (p1_c4)].toArray 31 (0, 0))), (0, mout (wm W) (m0))] (by kernel_rfl) ?_
        refine VO.k9 0 1 2 4 6 9 10 17 25 ?_
        refine VC.ret ?_
        refine outBR ?_
        refine outR ?_
        refine ⟨_, _, res_run (rs := [.tmp 6]) rfl (.tmp rfl .nil), fun W_ hI => out_of (l := [m12]) hI [1] rfl rfl (mle_refl _) (fun hS_ => ?_)⟩
        dsimp only [packV]
        have hm0_ : (d0 : DdiskDisk) = (dSync d0).1 := by first | rfl | (exact fin0_done05U_ok)
        refine ⟨?_, ?_⟩
        rotate_left
        · rw [hm0_]; exact (Ow.up w12_0 (hS_.1 _ (.head _)))
        all_goals (first | rfl | (exact fin0_done05U_ok))
      · -- FFF
        refine VC.rs ?_
        refine VO.y rfl (.eql rfl rfl) ?_
        refine VO.as ?_
        refine VO.keep [102, 0, 1] [(102, mone g1 (.cells [Value.int .i64 (d1.1), Value.int .i64 (d1.2.1), Value.int .i64 (d1.2.2.1), Value.int .i64 (d1.2.2.2.1), Value.slice p1_A4 (d1.2.2.2.2.length) (p1_c4)].toArray 31 (0, 0))), (0, mout (wm W) (m0)), (1, m0)] (by kernel_rfl) ?_
        refine VO.k10 0 1 2 4 6 9 10 17 25 29 ?_
        refine VC.cond rfl (fun hc15 => ?_) (fun hc15 => ?_)
        · -- FFFT
          refine VC.rs ?_
          refine VO.mv ?_
          refine VO.y rfl (.fa rfl tst31 rfl) ?_
          refine VO.y rfl (.ld1 102 rfl tk3 rfl (cellsAt_one rfl rfl)) ?_
          refine VO.call 1 rfl fnOk22 rfl rfl (fun W hW => dFuse_ok W (hW.at (i := 1) rfl) h0 d1.2.2.1 bdk (by assumption)) (fun v16 m16 hv16 => ?_)
          obtain ⟨rfl, w16_0⟩ := hv16
          have hfa17 := (fuse_ok (n := d1.2.2.1) (show okD d0 by assumption))
          have hfa18 := (fuse_w d0 d1.2.2.1)
          refine VO.as ?_
          refine VO.k10 0 1 2 4 6 9 10 17 25 29 ?_
          refine VC.ret ?_
          refine outBR ?_
          refine outR ?_
          refine ⟨_, _, res_run (rs := [.tmp 6]) rfl (.tmp rfl .nil), fun W_ hI => out_of (l := [m16]) hI [1] rfl rfl (mle_refl _) (fun hS_ => ?_)⟩
          dsimp only [packV]
          have hm0_ : (d0 : DdiskDisk) = (dFuse d0 d1.2.2.1).1 := by first | rfl | (exact fin0_done05U_ok)
          refine ⟨?_, ?_⟩
          rotate_left
          · rw [hm0_]; exact (Ow.up w16_0 (hS_.1 _ (.head _)))
          all_goals (first | rfl | (exact fin0_done05U_ok))
        · -- FFFF
          refine VC.rs ?_
          refine VO.y rfl (.eql rfl rfl) ?_
          refine VO.as ?_
          refine VO.k11 0 1 2 4 6 9 10 17 25 29 35 ?_
          refine VC.cond rfl (fun hc19 => ?_) (fun hc19 => ?_)
          · -- FFFFT
            refine VC.rs ?_
            refine VO.mv ?_
            refine VO.call 1 rfl fnOk16 rfl rfl (fun W hW => dPull_ok W (hW.at (i := 1) rfl) h0 (by assumption)) (fun v20 m20 hv20 => ?_)
            obtain ⟨rfl, w20_0⟩ := hv20
            have hfa21 := (pull_ok (show okD d0 by assumption))
            have hfa22 := (pull_w d0)
            refine VO.as ?_
            refine VO.k11 0 1 2 4 6 9 10 17 25 29 35 ?_
            refine VC.ret ?_
            refine outBR ?_
            refine outR ?_
            refine ⟨_, _, res_run (rs := [.tmp 6]) rfl (.tmp rfl .nil), fun W_ hI => out_of (l := [m20]) hI [1] rfl rfl (mle_refl _) (fun hS_ => ?_)⟩
            dsimp only [packV]
            have hm0_ : (d0 : DdiskDisk) = (dPull d0).1 := by first | rfl | (exact fin0_done05U_ok)
            refine ⟨?_, ?_⟩
            rotate_left
            · rw [hm0_]; exact (Ow.up w20_0 (hS_.1 _ (.head _)))
            all_goals (first | rfl | (exact fin0_done05U_ok))
          · -- FFFFF
            refine VC.rs ?_
            refine VO.y rfl (.eql rfl rfl) ?_
            refine VO.as ?_
            refine VO.k12 0 1 2 4 6 9 10 17 25 29 35 39 ?_
            refine VC.cond rfl (fun hc23 => ?_) (fun hc23 => ?_)
            · -- FFFFFT
              refine VC.rs ?_
              refine VO.mv ?_
              refine VO.y rfl (.fa rfl tst31 rfl) ?_
              refine VO.y rfl (.ld1 102 rfl tk3 rfl (cellsAt_one rfl rfl)) ?_
              refine VO.y rfl (.fa rfl tst31 rfl) ?_
              refine VO.y rfl (.ld1 102 rfl tk3 rfl (cellsAt_one rfl rfl)) ?_
              refine VO.call 1 rfl fnOk17 rfl rfl (fun W hW => dStart_ok W (hW.at (i := 1) rfl) h0 d1.2.2.1 bdk d1.2.2.2.1 bdk (by assumption) bd) (fun v24 m24 hv24 => ?_)
              obtain ⟨rfl, w24_0⟩ := hv24
              have hfa25 := (start_ok (k := d1.2.2.1) (t := d1.2.2.2.1) (show okD d0 by assumption))
              have hfa26 := (start_w d0 d1.2.2.1 d1.2.2.2.1)
              refine VO.as ?_
              refine VO.keep [1, 102, 0] [(1, m24), (102, mone g1 (.cells [Value.int .i64 (d1.1), Value.int .i64 (d1.2.1), Value.int .i64 (d1.2.2.1), Value.int .i64 (d1.2.2.2.1), Value.slice p1_A4 (d1.2.2.2.2.length) (p1_c4)].toArray 31 (0, 0))), (0, mout (wm W) (m0))] (by kernel_rfl) ?_
              refine VO.k12 0 1 2 4 6 9 10 17 25 29 35 39 ?_
              refine VC.ret ?_
              refine outBR ?_
              refine outR ?_
              refine ⟨_, _, res_run (rs := [.tmp 6]) rfl (.tmp rfl .nil), fun W_ hI => out_of (l := [m24]) hI [1] rfl rfl (mle_refl _) (fun hS_ => ?_)⟩
              dsimp only [packV]
              have hm0_ : (d0 : DdiskDisk) = (dStart d0 d1.2.2.1 d1.2.2.2.1).1 := by first | rfl | (exact fin0_done05U_ok)
              refine ⟨?_, ?_⟩
              rotate_left
              · rw [hm0_]; exact (Ow.up w24_0 (hS_.1 _ (.head _)))
              all_goals (first | rfl | (exact fin0_done05U_ok))
            · -- FFFFFF
              refine VC.skip ?_
              refine outBN ?_
              refine outN ?_
              refine VC.rs ?_
              refine VO.mv ?_
              refine VO.call 1 rfl fnOk26 rfl rfl (fun W hW => dSafe_ok W (hW.at (i := 1) rfl) h0 (by assumption)) (fun v27 m27 hv27 => ?_)
              obtain ⟨rfl, w27_0⟩ := hv27
              have hfa28 := (safe_ok (show okD d0 by assumption))
              have hfa29 := (safe_w d0)
              refine VO.as ?_
              refine VO.keep [1, 102, 0] [(1, m27), (102, mone g1 (.cells [Value.int .i64 (d1.1), Value.int .i64 (d1.2.1), Value.int .i64 (d1.2.2.1), Value.int .i64 (d1.2.2.2.1), Value.slice p1_A4 (d1.2.2.2.2.length) (p1_c4)].toArray 31 (0, 0))), (0, mout (wm W) (m0))] (by kernel_rfl) ?_
              refine VO.k12 0 1 2 4 6 9 10 17 25 29 35 39 ?_
              refine VC.ret ?_
              refine ⟨_, _, res_run (rs := [.tmp 6]) rfl (.tmp rfl .nil), fun W_ hI => out_of (l := [m27]) hI [1] rfl rfl (mle_refl _) (fun hS_ => ?_)⟩
              dsimp only [packV]
              have hm0_ : (d0 : DdiskDisk) = (dSafe d0).1 := by first | rfl | (exact fin0_done05U_ok)
              refine ⟨?_, ?_⟩
              rotate_left
              · rw [hm0_]; exact (Ow.up w27_0 (hS_.1 _ (.head _)))
              all_goals (first | rfl | (exact fin0_done05U_ok))
theorem fin1_diskNil_ok {P : Prop} (h : P := by first | omega | (simp only [List.length_append, List.length_nil, List.length_cons, List.length_take, List.length_drop] at *; omega) | decide) : P := h
set_option maxHeartbeats 4000000 in
theorem diskNil_ok (W : World) {v0 : List Value} {d0 : Dlaw05Act} (h0 : Rd Tlaw05Act (wm W) v0 d0) : CallR Try.prog 7 [.agg v0.toArray] W (mnil) (fun v m' => v = .bool true) := by
  obtain ⟨p0_A4, p0_c4, rfl, p0_0, p0_1, p0_2, p0_3, p0_4⟩ := open_law05Act (x0 := d0.1) (x1 := d0.2.1) (x2 := d0.2.2.1) (x3 := d0.2.2.2.1) (x4 := d0.2.2.2.2) h0
  simp only [inK] at p0_0
  simp only [inK] at p0_1
  simp only [inK] at p0_2
  simp only [inK] at p0_3
  have p0_r4 := Rd.room p0_4
  refine CallR.ofA (n := 66) Try.func7 rfl rfl rfl ?_
  refine VC.rs ?_
  refine VO.box (cs := [Value.int .i64 (d0.1), Value.int .i64 (d0.2.1), Value.int .i64 (d0.2.2.1), Value.int .i64 (d0.2.2.2.1), Value.slice p0_A4 (d0.2.2.2.2.length) (p0_c4)]) 102 rfl rfl rfl (fun g1 => ?_)
  refine VO.as ?_
  refine VO.k3 0 1 2 ?_
  refine VC.rs ?_
  refine VO.y rfl (.bst (cs := [Value.bool false, Value.bool false, Value.bool false, Value.int .i64 (0), Value.int .i64 (0), Value.slice none (0) (0), Value.slice none (0) (0), Value.slice none (0) (0), Value.slice none (0) (0), Value.slice none (0) (0)]) rfl tst58 tz58 rfl) ?_
  refine VO.box (cs := [Value.bool false, Value.bool false, Value.bool false, Value.int .i64 (0), Value.int .i64 (0), Value.slice none (0) (0), Value.slice none (0) (0), Value.slice none (0) (0), Value.slice none (0) (0), Value.slice none (0) (0)]) 104 rfl rfl rfl (fun g3 => ?_)
  refine VO.bsl (cs := [Value.pointer none, Value.pointer (some ⟨g3, 0, none⟩)]) 106 rfl rfl tsl59 tz25 rfl rfl (fun g5 => ?_)
  refine VO.as ?_
  refine VO.k4 0 1 2 3 ?_
  refine VC.seq ?_
  refine VC.rs ?_
  refine VO.as ?_
  refine VO.keep [106, 104, 102, 0] [(106, mone g5 (.cells [Value.pointer none, Value.pointer (some ⟨g3, 0, none⟩)].toArray 25 (0, 0))), (104, mone g3 (.cells [Value.bool false, Value.bool false, Value.bool false, Value.int .i64 (0), Value.int .i64 (0), Value.slice none (0) (0), Value.slice none (0) (0), Value.slice none (0) (0), Value.slice none (0) (0), Value.slice none (0) (0)].toArray 58 (0, 0))), (102, mone g1 (.cells [Value.int .i64 (d0.1), Value.int .i64 (d0.2.1), Value.int .i64 (d0.2.2.1), Value.int .i64 (d0.2.2.2.1), Value.slice p0_A4 (d0.2.2.2.2.length) (p0_c4)].toArray 31 (0, 0))), (0, wm W)] (by kernel_rfl) ?_
  refine VO.k5 0 1 2 3 4 ?_
  refine VC.block ?_
  refine VC.rounds 3 (VRounds.step ?_)
  refine VC.seq ?_
  refine VC.rs ?_
  refine VO.mv ?_
  refine VO.mv ?_
  refine VO.y rfl (.lenS rfl tsl59) ?_
  refine VO.y rfl (.lss rfl rfl) ?_
  refine VO.k6 0 1 2 3 4 14 ?_
  refine VC.cond rfl (fun hc7 => ?_) (fun hc7 => ?_)
  · -- RT
    refine VC.skip ?_
    refine outN ?_
    refine VC.seq ?_
    refine VC.block ?_
    refine VC.rs ?_
    have hz0 : okD ((false, false, false, 0, 0, ([], [], [], []), []) : DdiskDisk) := okD_zero
    refine VO.mv ?_
    refine VO.mv ?_
    refine VO.y rfl (.ixL (oo := 0) 0 rfl rfl tsl59 rfl (by decide) rfl) ?_
    refine VO.y rfl (.ld1 106 rfl tk25 rfl (cellsAt_one rfl rfl)) ?_
    refine VO.as ?_
    refine VO.k7 0 1 2 3 4 5 14 ?_
    refine VC.rs ?_
    refine VO.mv ?_
    refine VO.y rfl (.fa rfl tst31 rfl) ?_
    refine VO.y rfl (.ld1 102 rfl tk3 rfl (cellsAt_one rfl rfl)) ?_
    refine VO.callN 109 rfl fnOk18 rfl (fun W hW => dReadN_ok W d0.2.1 (by simp only [inK]; (exact fin1_diskNil_ok))) (fun v9 m9 hv9 => ?_)
    obtain ⟨s9_0, rfl, f9_0⟩ := hv9
    obtain ⟨A9_0, c9_0, eq9_0, l9_0, k9_0⟩ := f9_0.slice
    subst eq9_0
    simp only [maxLen] at k9_0
    refine VO.mv ?_
    refine VO.y rfl (.ext rfl rfl) ?_
    refine VO.y rfl (.ext rfl rfl) ?_
    refine VO.as ?_
    refine VO.as ?_
    refine VO.keep [109, 106, 104, 102, 0] [(109, m9), (106, mone g5 (.cells [Value.pointer none, Value.pointer (some ⟨g3, 0, none⟩)].toArray 25 (0, 0))), (104, mone g3 (.cells [Value.bool false, Value.bool false, Value.bool false, Value.int .i64 (0), Value.int .i64 (0), Value.slice none (0) (0), Value.slice none (0) (0), Value.slice none (0) (0), Value.slice none (0) (0), Value.slice none (0) (0)].toArray 58 (0, 0))), (102, mone g1 (.cells [Value.int .i64 (d0.1), Value.int .i64 (d0.2.1), Value.int .i64 (d0.2.2.1), Value.int .i64 (d0.2.2.2.1), Value.slice p0_A4 (d0.2.2.2.2.length) (p0_c4)].toArray 31 (0, 0))), (0, wm W)] (by kernel_rfl) ?_
    refine VO.k9 0 1 2 3 4 5 6 7 14 ?_
    refine VC.rs ?_
    refine VO.mv ?_
    refine VO.y rfl (.ldA 102 rfl tk31 rfl (cellsAt_one rfl rfl)) ?_
    refine VO.y rfl (.fa rfl tst31 rfl) ?_
    refine VO.y rfl (.ld1 102 rfl tk27 rfl (cellsAt_one rfl rfl)) ?_
    refine VO.callN 110 rfl fnOk29 rfl (fun W hW => done05N_ok W (Rd.mono h0 (hW.at (i := 0) rfl)) (Rd.mono p0_4 (hW.at (i := 0) rfl))) (fun v10 m10 hv10 => ?_)
    subst hv10
    refine VO.y rfl (.neq rfl rfl) ?_
    refine VO.mv ?_
    refine VO.dec (t := 34) rfl (fun hc11 => ?_) (fun hc11 => ?_)
    · -- RTT
      first | exact absurd hc11 (by decide) | exact absurd (by decide) hc11 | exact absurd rfl hc11 | (exfalso; omega) | (simp [dRead, dDurable, dPending, dSteps, wrongD] at hc11; done) | (revert hc11; unfold actD; intro hq_; exfalso; apply hq_; split <;> first | rfl | (split <;> first | rfl | (split <;> first | rfl | (split <;> first | rfl | (split <;> first | rfl | (split <;> rfl))))))
    · -- RTF
      refine VO.gy rfl ⟨_, rfl, rfl⟩ (.mv rfl) ?_
      refine VO.gy rfl ⟨_, rfl, rfl⟩ (.neq rfl rfl) ?_
      refine VO.y rfl (.pF rfl rfl) ?_
      refine VO.mv ?_
      refine VO.known (t := 38) false rfl (decide_eq_false hc11) ?_
      refine VO.gy rfl ⟨_, rfl, rfl⟩ (.mv rfl) ?_
      refine VO.gy rfl ⟨_, rfl, rfl⟩ (.lenS rfl tsl27) ?_
      refine VO.gy rfl ⟨_, rfl, rfl⟩ (.neq rfl rfl) ?_
      refine VO.y rfl (.pF rfl rfl) ?_
      refine VO.mv ?_
      refine VO.dec (t := 43) rfl (fun hc12 => ?_) (fun hc12 => ?_)
      · -- RTFT
        first | exact absurd hc12 (by decide) | exact absurd (by decide) hc12 | exact absurd rfl hc12 | (exfalso; omega) | (simp [dRead, dDurable, dPending, dSteps, wrongD] at hc12; done) | (revert hc12; unfold actD; intro hq_; exfalso; apply hq_; split <;> first | rfl | (split <;> first | rfl | (split <;> first | rfl | (split <;> first | rfl | (split <;> first | rfl | (split <;> rfl))))))
      · -- RTFF
        refine VO.gy rfl ⟨_, rfl, rfl⟩ (.mv rfl) ?_
        refine VO.gcallN 113 rfl ⟨_, rfl, rfl⟩ fnOk23 rfl (fun W hW => dOnN_ok W ) (fun v13 m13 hv13 => ?_)
        subst hv13
        refine VO.y rfl (.pF rfl rfl) ?_
        refine VO.mv ?_
        refine VO.dec (t := 47) rfl (fun hc14 => ?_) (fun hc14 => ?_)
        · -- RTFFT
          first | exact absurd hc14 (by decide) | exact absurd (by decide) hc14 | exact absurd rfl hc14 | (exfalso; omega) | (simp [dRead, dDurable, dPending, dSteps, wrongD] at hc14; done) | (revert hc14; unfold actD; intro hq_; exfalso; apply hq_; split <;> first | rfl | (split <;> first | rfl | (split <;> first | rfl | (split <;> first | rfl | (split <;> first | rfl | (split <;> rfl))))))
        · -- RTFFF
          refine VO.gy rfl ⟨_, rfl, rfl⟩ (.mv rfl) ?_
          refine VO.gcallN 115 rfl ⟨_, rfl, rfl⟩ fnOk13 rfl (fun W hW => dPendingN_ok W ) (fun v15 m15 hv15 => ?_)
          subst hv15
          refine VO.gy rfl ⟨_, rfl, rfl⟩ (.neq rfl rfl) ?_
          refine VO.y rfl (.pF rfl rfl) ?_
          refine VO.mv ?_
          refine VO.dec (t := 52) rfl (fun hc16 => ?_) (fun hc16 => ?_)
          · -- RTFFFT
            first | exact absurd hc16 (by decide) | exact absurd (by decide) hc16 | exact absurd rfl hc16 | (exfalso; omega) | (simp [dRead, dDurable, dPending, dSteps, wrongD] at hc16; done) | (revert hc16; unfold actD; intro hq_; exfalso; apply hq_; split <;> first | rfl | (split <;> first | rfl | (split <;> first | rfl | (split <;> first | rfl | (split <;> first | rfl | (split <;> rfl))))))
          · -- RTFFFF
            refine VO.gy rfl ⟨_, rfl, rfl⟩ (.mv rfl) ?_
            refine VO.gcallN 117 rfl ⟨_, rfl, rfl⟩ fnOk24 rfl (fun W hW => dStepsN_ok W ) (fun v17 m17 hv17 => ?_)
            subst hv17
            refine VO.gy rfl ⟨_, rfl, rfl⟩ (.neq rfl rfl) ?_
            refine VO.y rfl (.pF rfl rfl) ?_
            refine VO.mv ?_
            refine VO.known (t := 57) false rfl (decide_eq_false hc16) ?_
            refine VO.gy rfl ⟨_, rfl, rfl⟩ (.mv rfl) ?_
            refine VO.gy rfl ⟨_, rfl, rfl⟩ (.fa rfl tst31 rfl) ?_
            refine VO.gy rfl ⟨_, rfl, rfl⟩ (.ld1 102 rfl tk3 rfl (cellsAt_one rfl rfl)) ?_
            refine VO.gcallN 118 rfl ⟨_, rfl, rfl⟩ fnOk21 rfl (fun W hW => dDurableN_ok W d0.2.1 (by simp only [inK]; (exact fin1_diskNil_ok))) (fun v18 m18 hv18 => ?_)
            obtain ⟨s18_0, rfl, f18_0⟩ := hv18
            obtain ⟨A18_0, c18_0, eq18_0, l18_0, k18_0⟩ := f18_0.slice
            subst eq18_0
            simp only [maxLen] at k18_0
            refine VO.gy rfl ⟨_, rfl, rfl⟩ (.lenS rfl tsl27) ?_
            refine VO.gy rfl ⟨_, rfl, rfl⟩ (.neq rfl rfl) ?_
            refine VO.y rfl (.pF rfl rfl) ?_
            refine VO.k10 0 1 2 3 4 5 6 7 14 64 ?_
            refine VC.condKF rfl (decide_eq_false hc12) ?_
            refine VC.skip ?_
            refine outBN ?_
            refine outN ?_
            refine VC.reg ?_
            refine VO.mv ?_
            refine VO.y rfl (.add (c := ((1 : Nat) : Int)) rfl rfl (by omega) ⟨by exact fin1_diskNil_ok, by exact fin1_diskNil_ok⟩) ?_
            refine VO.as ?_
            refine VO.k10 0 1 2 3 4 5 6 7 14 64 ?_
            refine outN (VRounds.step ?_)
            refine VC.seq ?_
            refine VC.rs ?_
            refine VO.mv ?_
            refine VO.mv ?_
            refine VO.y rfl (.lenS rfl tsl59) ?_
            refine VO.y rfl (.lss rfl rfl) ?_
            refine VO.keep [109, 106, 104, 102, 0] [(109, m9), (106, mone g5 (.cells [Value.pointer none, Value.pointer (some ⟨g3, 0, none⟩)].toArray 25 (0, 0))), (104, mone g3 (.cells [Value.bool false, Value.bool false, Value.bool false, Value.int .i64 (0), Value.int .i64 (0), Value.slice none (0) (0), Value.slice none (0) (0), Value.slice none (0) (0), Value.slice none (0) (0), Value.slice none (0) (0)].toArray 58 (0, 0))), (102, mone g1 (.cells [Value.int .i64 (d0.1), Value.int .i64 (d0.2.1), Value.int .i64 (d0.2.2.1), Value.int .i64 (d0.2.2.2.1), Value.slice p0_A4 (d0.2.2.2.2.length) (p0_c4)].toArray 31 (0, 0))), (0, wm W)] (by kernel_rfl) ?_
            refine VO.k10 0 1 2 3 4 5 6 7 14 64 ?_
            refine VC.cond rfl (fun hc19 => ?_) (fun hc19 => ?_)
            · -- RTFFFFRT
              refine VC.skip ?_
              refine outN ?_
              refine VC.seq ?_
              refine VC.block ?_
              refine VC.rs ?_
              have hz0 : okD ((false, false, false, 0, 0, ([], [], [], []), []) : DdiskDisk) := okD_zero
              refine VO.mv ?_
              refine VO.mv ?_
              refine VO.y rfl (.ixL (oo := 1) 1 rfl rfl tsl59 rfl (by decide) rfl) ?_
              refine VO.y rfl (.ld1 106 rfl tk25 rfl (cellsAt_one rfl rfl)) ?_
              refine VO.as ?_
              refine VO.k10 0 1 2 3 4 5 6 7 14 64 ?_
              refine VC.rs ?_
              refine VO.mv ?_
              refine VO.y rfl (.fa rfl tst31 rfl) ?_
              refine VO.y rfl (.ld1 102 rfl tk3 rfl (cellsAt_one rfl rfl)) ?_
              refine VO.gather (l := [mone g3 (.cells [Value.bool false, Value.bool false, Value.bool false, Value.int .i64 (0), Value.int .i64 (0), Value.slice none (0) (0), Value.slice none (0) (0), Value.slice none (0) (0), Value.slice none (0) (0), Value.slice none (0) (0)].toArray 58 (0, 0))]) 122 [104] rfl (fun hg22 => ?_)
              have ho22 : Ow (.ptr TdiskDisk) (muns [mone g3 (.cells [Value.bool false, Value.bool false, Value.bool false, Value.int .i64 (0), Value.int .i64 (0), Value.slice none (0) (0), Value.slice none (0) (0), Value.slice none (0) (0), Value.slice none (0) (0), Value.slice none (0) (0)].toArray 58 (0, 0))]) [.pointer (some ⟨g3, 0, none⟩)] (g3, (false, false, false, 0, 0, ([], [], [], []), [])) := (mkP_diskDisk false false false 0 0 [] [] [] [] [] (Seps.nilAt 5 (Seps.nilAt 4 (Seps.nilAt 3 (Seps.nilAt 2 (Seps.nilAt 1 hg22))))) (by simp only [inK]; (exact fin1_diskNil_ok)) (by simp only [inK]; (exact fin1_diskNil_ok)) (Ow.nil _ _) (Ow.nil _ _) (Ow.nil _ _) (Ow.nil _ _) (Ow.nil _ _))
              refine VO.call 122 rfl fnOk18 rfl rfl (fun W hW => dRead_ok W (hW.at (i := 122) rfl) ho22 d0.2.1 (by simp only [inK]; (exact fin1_diskNil_ok)) (by first | assumption | exact okD_zero) (by exact fin1_diskNil_ok)) (fun v21 m21 hv21 => ?_)
              try dsimp only at hv21
              obtain ⟨s21_0, p21_0, p21_1, rfl, hS21, f21_0, w21_0⟩ := hv21
              refine VO.inv _ (fun _ h => h.parts (i := 122) rfl hS21 [123, 124]) ?_
              have hfa25 := (read_size (false, false, false, 0, 0, ([], [], [], []), []) d0.2.1)
              obtain ⟨A21_0, c21_0, eq21_0, l21_0, k21_0⟩ := f21_0.slice
              subst eq21_0
              simp only [maxLen] at k21_0
              refine VO.mv ?_
              refine VO.y rfl (.ext rfl rfl) ?_
              refine VO.y rfl (.ext rfl rfl) ?_
              refine VO.as ?_
              refine VO.as ?_
              refine VO.k10 0 1 2 3 4 5 6 7 14 64 ?_
              refine VC.rs ?_
              refine VO.mv ?_
              refine VO.y rfl (.ldA 102 rfl tk31 rfl (cellsAt_one rfl rfl)) ?_
              refine VO.y rfl (.fa rfl tst31 rfl) ?_
              refine VO.y rfl (.ld1 102 rfl tk27 rfl (cellsAt_one rfl rfl)) ?_
              refine VO.call 124 rfl fnOk29 rfl rfl (fun W hW => done05U_ok W (hW.at (i := 124) rfl) w21_0 (Rd.mono h0 (hW.out (i := 124) (j := 0) rfl rfl)) (Rd.mono p0_4 (hW.out (i := 124) (j := 0) rfl rfl)) (by first | assumption | exact okD_zero) (by exact fin1_diskNil_ok) (by first | assumption | rfl)) (fun v26 m26 hv26 => ?_)
              obtain ⟨rfl, w26_0⟩ := hv26
              refine VO.y rfl (.neq rfl rfl) ?_
              refine VO.mv ?_
              refine VO.known (t := 34) false rfl (decide_eq_false hc11) ?_
              refine VO.gy rfl ⟨_, rfl, rfl⟩ (.mv rfl) ?_
              refine VO.gy rfl ⟨_, rfl, rfl⟩ (.neq rfl rfl) ?_
              refine VO.y rfl (.pF rfl rfl) ?_
              refine VO.mv ?_
              refine VO.dec (t := 38) rfl (fun hc27 => ?_) (fun hc27 => ?_)
              · -- RTFFFFRTT
                first | exact absurd hc27 (by decide) | exact absurd (by decide) hc27 | exact absurd rfl hc27 | (exfalso; omega) | (simp [dRead, dDurable, dPending, dSteps, wrongD] at hc27; done) | (revert hc27; unfold actD; intro hq_; exfalso; apply hq_; split <;> first | rfl | (split <;> first | rfl | (split <;> first | rfl | (split <;> first | rfl | (split <;> first | rfl | (split <;> rfl))))))
              · -- RTFFFFRTF
                refine VO.gy rfl ⟨_, rfl, rfl⟩ (.mv rfl) ?_
                refine VO.gy rfl ⟨_, rfl, rfl⟩ (.lenS rfl tsl27) ?_
                refine VO.gy rfl ⟨_, rfl, rfl⟩ (.neq rfl rfl) ?_
                refine VO.y rfl (.pF rfl rfl) ?_
                refine VO.mv ?_
                refine VO.dec (t := 43) rfl (fun hc28 => ?_) (fun hc28 => ?_)
                · -- RTFFFFRTFT
                  first | exact absurd hc28 (by decide) | exact absurd (by decide) hc28 | exact absurd rfl hc28 | (exfalso; omega) | (simp [dRead, dDurable, dPending, dSteps, wrongD] at hc28; done) | (revert hc28; unfold actD; intro hq_; exfalso; apply hq_; split <;> first | rfl | (split <;> first | rfl | (split <;> first | rfl | (split <;> first | rfl | (split <;> first | rfl | (split <;> rfl))))))
                · -- RTFFFFRTFF
                  refine VO.gy rfl ⟨_, rfl, rfl⟩ (.mv rfl) ?_
                  refine VO.gcall 124 rfl ⟨_, rfl, rfl⟩ fnOk23 rfl rfl (fun W hW => dOn_ok W (hW.at (i := 124) rfl) w26_0) (fun v29 m29 hv29 => ?_)
                  obtain ⟨rfl, w29_0⟩ := hv29
                  refine VO.y rfl (.pF rfl rfl) ?_
                  refine VO.mv ?_
                  refine VO.dec (t := 47) rfl (fun hc30 => ?_) (fun hc30 => ?_)
                  · -- RTFFFFRTFFT
                    first | exact absurd hc30 (by decide) | exact absurd (by decide) hc30 | exact absurd rfl hc30 | (exfalso; omega) | (simp [dRead, dDurable, dPending, dSteps, wrongD] at hc30; done) | (revert hc30; unfold actD; intro hq_; exfalso; apply hq_; split <;> first | rfl | (split <;> first | rfl | (split <;> first | rfl | (split <;> first | rfl | (split <;> first | rfl | (split <;> rfl))))))
                  · -- RTFFFFRTFFF
                    refine VO.gy rfl ⟨_, rfl, rfl⟩ (.mv rfl) ?_
                    refine VO.gcall 124 rfl ⟨_, rfl, rfl⟩ fnOk13 rfl rfl (fun W hW => dPending_ok W (hW.at (i := 124) rfl) w29_0) (fun v31 m31 hv31 => ?_)
                    obtain ⟨rfl, w31_0⟩ := hv31
                    refine VO.gy rfl ⟨_, rfl, rfl⟩ (.neq rfl rfl) ?_
                    refine VO.y rfl (.pF rfl rfl) ?_
                    refine VO.mv ?_
                    refine VO.dec (t := 52) rfl (fun hc32 => ?_) (fun hc32 => ?_)
                    · -- RTFFFFRTFFFT
                      first | exact absurd hc32 (by decide) | exact absurd (by decide) hc32 | exact absurd rfl hc32 | (exfalso; omega) | (simp [dRead, dDurable, dPending, dSteps, wrongD] at hc32; done) | (revert hc32; unfold actD; intro hq_; exfalso; apply hq_; split <;> first | rfl | (split <;> first | rfl | (split <;> first | rfl | (split <;> first | rfl | (split <;> first | rfl | (split <;> rfl))))))
                    · -- RTFFFFRTFFFF
                      refine VO.gy rfl ⟨_, rfl, rfl⟩ (.mv rfl) ?_
                      refine VO.gcall 124 rfl ⟨_, rfl, rfl⟩ fnOk24 rfl rfl (fun W hW => dSteps_ok W (hW.at (i := 124) rfl) w31_0) (fun v33 m33 hv33 => ?_)
                      obtain ⟨rfl, w33_0⟩ := hv33
                      refine VO.gy rfl ⟨_, rfl, rfl⟩ (.neq rfl rfl) ?_
                      refine VO.y rfl (.pF rfl rfl) ?_
                      refine VO.mv ?_
                      refine VO.dec (t := 57) rfl (fun hc34 => ?_) (fun hc34 => ?_)
                      · -- RTFFFFRTFFFFT
                        first | exact absurd hc34 (by decide) | exact absurd (by decide) hc34 | exact absurd rfl hc34 | (exfalso; omega) | (simp [dRead, dDurable, dPending, dSteps, wrongD] at hc34; done) | (revert hc34; unfold actD; intro hq_; exfalso; apply hq_; split <;> first | rfl | (split <;> first | rfl | (split <;> first | rfl | (split <;> first | rfl | (split <;> first | rfl | (split <;> rfl))))))
                      · -- RTFFFFRTFFFFF
                        refine VO.gy rfl ⟨_, rfl, rfl⟩ (.mv rfl) ?_
                        refine VO.gy rfl ⟨_, rfl, rfl⟩ (.fa rfl tst31 rfl) ?_
                        refine VO.gy rfl ⟨_, rfl, rfl⟩ (.ld1 102 rfl tk3 rfl (cellsAt_one rfl rfl)) ?_
                        refine VO.gcall 124 rfl ⟨_, rfl, rfl⟩ fnOk21 rfl rfl (fun W hW => dDurable_ok W (hW.at (i := 124) rfl) w33_0 d0.2.1 (by simp only [inK]; (exact fin1_diskNil_ok)) (by exact fin1_diskNil_ok)) (fun v35 m35 hv35 => ?_)
                        obtain ⟨s35_0, p35_0, p35_1, rfl, hS35, f35_0, w35_0⟩ := hv35
                        refine VO.inv _ (fun _ h => h.parts (i := 124) rfl hS35 [136, 137]) ?_
                        have hfa38 := (durable_size (false, false, false, 0, 0, ([], [], [], []), []) d0.2.1)
                        obtain ⟨A35_0, c35_0, eq35_0, l35_0, k35_0⟩ := f35_0.slice
                        subst eq35_0
                        simp only [maxLen] at k35_0
                        refine VO.gy rfl ⟨_, rfl, rfl⟩ (.lenS rfl tsl27) ?_
                        refine VO.gy rfl ⟨_, rfl, rfl⟩ (.neq rfl rfl) ?_
                        refine VO.y rfl (.pF rfl rfl) ?_
                        refine VO.keep [137, 123, 106, 102, 0] [(137, p35_1), (123, p21_0), (106, mone g5 (.cells [Value.pointer none, Value.pointer (some ⟨g3, 0, none⟩)].toArray 25 (0, 0))), (102, mone g1 (.cells [Value.int .i64 (d0.1), Value.int .i64 (d0.2.1), Value.int .i64 (d0.2.2.1), Value.int .i64 (d0.2.2.2.1), Value.slice p0_A4 (d0.2.2.2.2.length) (p0_c4)].toArray 31 (0, 0))), (0, wm W)] (by kernel_rfl) ?_
                        refine VO.k10 0 1 2 3 4 5 6 7 14 64 ?_
                        refine VC.cond rfl (fun hc39 => ?_) (fun hc39 => ?_)
                        · -- RTFFFFRTFFFFFT
                          first | exact absurd hc39 (by decide) | exact absurd (by decide) hc39 | exact absurd rfl hc39 | (exfalso; omega) | (simp [dRead, dDurable, dPending, dSteps, wrongD] at hc39; done) | (revert hc39; unfold actD; intro hq_; exfalso; apply hq_; split <;> first | rfl | (split <;> first | rfl | (split <;> first | rfl | (split <;> first | rfl | (split <;> first | rfl | (split <;> rfl))))))
                        · -- RTFFFFRTFFFFFF
                          refine VC.skip ?_
                          refine outBN ?_
                          refine outN ?_
                          refine VC.reg ?_
                          refine VO.mv ?_
                          refine VO.y rfl (.add (c := ((2 : Nat) : Int)) rfl rfl (by omega) ⟨by exact fin1_diskNil_ok, by exact fin1_diskNil_ok⟩) ?_
                          refine VO.as ?_
                          refine VO.k10 0 1 2 3 4 5 6 7 14 64 ?_
                          refine outN (VRounds.step ?_)
                          refine VC.seq ?_
                          refine VC.rs ?_
                          refine VO.mv ?_
                          refine VO.mv ?_
                          refine VO.y rfl (.lenS rfl tsl59) ?_
                          refine VO.y rfl (.lss rfl rfl) ?_
                          refine VO.k10 0 1 2 3 4 5 6 7 14 64 ?_
                          refine VC.cond rfl (fun hc40 => ?_) (fun hc40 => ?_)
                          · -- RTFFFFRTFFFFFFRT
                            first | exact absurd hc40 (by decide) | exact absurd (by decide) hc40 | exact absurd rfl hc40 | (exfalso; omega) | (simp [dRead, dDurable, dPending, dSteps, wrongD] at hc40; done) | (revert hc40; unfold actD; intro hq_; exfalso; apply hq_; split <;> first | rfl | (split <;> first | rfl | (split <;> first | rfl | (split <;> first | rfl | (split <;> first | rfl | (split <;> rfl))))))
                          · -- RTFFFFRTFFFFFFRF
                            refine VC.exit ?_
                            refine outE ?_
                            refine outE ?_
                            refine outBB ?_
                            refine outN ?_
                            refine VC.rs ?_
                            refine VO.callN 141 rfl fnOk8 rfl (fun W hW => lives05_ok W ) (fun v41 m41 hv41 => ?_)
                            subst hv41
                            refine VO.as ?_
                            refine VO.keep [137, 123, 106, 102, 0] [(137, p35_1), (123, p21_0), (106, mone g5 (.cells [Value.pointer none, Value.pointer (some ⟨g3, 0, none⟩)].toArray 25 (0, 0))), (102, mone g1 (.cells [Value.int .i64 (d0.1), Value.int .i64 (d0.2.1), Value.int .i64 (d0.2.2.1), Value.int .i64 (d0.2.2.2.1), Value.slice p0_A4 (d0.2.2.2.2.length) (p0_c4)].toArray 31 (0, 0))), (0, wm W)] (by kernel_rfl) ?_
                            refine VO.k10 0 1 2 3 4 5 6 7 14 64 ?_
                            refine VC.ret ?_
                            refine ⟨_, _, res_run (rs := [.tmp 2]) rfl (.tmp rfl .nil), fun W_ hI => out_of (l := []) hI [] rfl rfl (mle_refl _) (fun hS_ => ?_)⟩
                            dsimp only [packV]
                            all_goals (first | rfl | (simp [*]; done))
            · -- RTFFFFRF
              first | exact absurd hc19 (by decide) | exact absurd (by decide) hc19 | exact absurd rfl hc19 | (exfalso; omega) | (simp [dRead, dDurable, dPending, dSteps, wrongD] at hc19; done) | (revert hc19; unfold actD; intro hq_; exfalso; apply hq_; split <;> first | rfl | (split <;> first | rfl | (split <;> first | rfl | (split <;> first | rfl | (split <;> first | rfl | (split <;> rfl))))))
  · -- RF
    first | exact absurd hc7 (by decide) | exact absurd (by decide) hc7 | exact absurd rfl hc7 | (exfalso; omega) | (simp [dRead, dDurable, dPending, dSteps, wrongD] at hc7; done) | (revert hc7; unfold actD; intro hq_; exfalso; apply hq_; split <;> first | rfl | (split <;> first | rfl | (split <;> first | rfl | (split <;> first | rfl | (split <;> first | rfl | (split <;> rfl))))))
end
section
set_option linter.unusedVariables false
set_option maxRecDepth 4000
open Go.ChangeShapes Go.WideShapes Go.ChangeAt Go.RowKit
theorem diskNil_ok0 : tyOk Try.prog 60 Tlaw05Act (.inl 31) = true := by kernel_rfl
set_option maxRecDepth 100000 in
theorem diskNil_lifted (os : Os) (started : os.Started) (H : Type) (enc : TypeId × Value → H) :
    ReturnsInHanded {} Try.checked os 7 .any (Rows.diskNilSpec.pre6 enc Try.prog Try.f7 Rows.diskNilRow.domain false) (Rows.diskNilSpec.post enc Try.prog Try.f7 false true false false) := by
  refine returnsInHanded_of_change (C := Try.checked) (by kernel_rfl) started (by kernel_rfl) Try.func7
    (ChangeSpec.witness6 (enc := enc) (C := Try.checked) false ⟨#[], #[.agg #[.int .i64 0, .int .i64 0, .int .i64 0, .int .i64 0, .slice none 0 0]], []⟩ 8 (by kernel_rfl) (by kernel_rfl) (by kernel_rfl) (by kernel_rfl)) ?_
  intro W base args ds gs before hval0 hW hcnd _
  have hval : ∀ (j : Nat) t v, Try.f7.params[j]? = some t → args[j]? = some v → Value.okWide Try.prog W .any base t v := hval0
  have hW' := hW
  obtain ⟨p, q, hA0, hV, rfl, hfz, hnd⟩ := hW
  have hA : DataW.TrodAll enc Try.prog W 0 (fun _ => true) true Try.f7.params.toList args.toList ds p := hA0
  rw [Try.params7] at hA hval
  clear hA0 hval0
  obtain ⟨args⟩ := args
  obtain ⟨v0, r0, d0, e0, p0, q0, ha0, rfl, rfl, h0, hA0⟩ := trodAll_cons hA
  simp only at ha0; subst ha0
  obtain ⟨rfl, rfl, rfl⟩ := trodAll_nil hA0
  obtain ⟨c0, x0, rfl, hx0⟩ := arg_st 60 diskNil_ok0 Try.underlying31 (hval 0 31 v0 rfl rfl) h0
  refine (calls_of (diskNil_ok W hx0)).mono fun e W' ⟨he, hg⟩ => ?_
  subst he
  exact ⟨_, rfl, law_post hW' hg laidOut_ok (by kernel_rfl) rfl Try.underlying4 rfl rfl rfl rfl⟩
theorem diskNil_joined : joinedFacts Try.prog 7 Try.f7 Rows.diskNilSpec Rows.diskNilRow = true := by
  unfold joinedFacts
  rw [laidOut_ok, mapsRowed_ok, stopsHeard_ok, mayEnter_ok, lifts_ok, make_ok]
  kernel_rfl
theorem diskNil_proved : Rows.DiskNilSaid :=
  OpenClaim.holds_of_wide 7 Try.f7 rfl rfl rfl rfl rfl rfl rfl ⟨rfl, rfl, rfl, rfl, rfl⟩ rfl rfl rfl rfl rfl (by kernel_rfl) Try.func7 diskNil_joined
    (of_decide_eq_true (by kernel_rfl)) (by unfold Func.isWrapper; first | (rw [if_pos (by decide +kernel)]; kernel_rfl) | (rw [if_neg (by decide +kernel)]; exact ⟨rfl, rfl⟩))
    (fun os started H enc _ => diskNil_lifted os started H enc)
#print axioms diskNil_proved
end
end Go.Proofs.Ytmhalhadgclffaa
