/- Part 5 of the proof of LOrphanTorn: what it needs of the library, the walks and the plain laws. Conditions: those named in each theorem. -/
import Derived.Test.YtbjkfnnabnacfaaLOrphanTornM4
namespace Go.Proofs.Ytbjkfnnabnacfaa
section
set_option linter.unusedVariables false
set_option linter.unusedSimpArgs false
set_option maxRecDepth 4000
set_option maxHeartbeats 4000000 in
theorem dStart_ok (W : World) {m0 : Mem} (hm : mle (m0) (wm W)) {g0 : Nat} {d0 : DdiskDisk} (h0 : Ow (.ptr TdiskDisk) m0 [.pointer (some ⟨g0, 0, none⟩)] (g0, d0)) (d1 : Int) (h1 : inK .i64 d1) (d2 : Int) (h2 : inK .i64 d2) (e0 : okD d0) (e1 : wD d0 ≤ 1000000000000) : CallR Try.prog 48 [.pointer (some ⟨g0, 0, none⟩), .int .i64 d1, .int .i64 d2] W (m0) (fun v m' => v = .int .i64 ((dStart d0 d1 d2).2) ∧ Ow (.ptr TdiskDisk) m' [.pointer (some ⟨g0, 0, none⟩)] (g0, (dStart d0 d1 d2).1)) := by
  have h1' := h1; simp only [inK] at h1'
  have h2' := h2; simp only [inK] at h2'
  refine CallR.ofB (n := 93) hm Try.func48 rfl rfl rfl ?_
  refine VC.rs ?_
  refine VO.as ?_
  refine VO.k4 0 1 2 6 ?_
  refine VC.seq ?_
  refine VC.block ?_
  refine VC.rs ?_
  refine VO.mv ?_
  refine VO.call 1 rfl fnOk73 rfl rfl (fun W hW => dNone_ok W (hW.at (i := 1) rfl) h0) (fun v1 m1 hv1 => ?_)
  obtain ⟨rfl, w1_0⟩ := hv1
  refine VO.as ?_
  refine VO.k5 0 1 2 6 8 ?_
  refine VC.cond rfl (fun hc2 => ?_) (fun hc2 => ?_)
  · -- T
    refine VC.rs ?_
    refine VO.as ?_
    refine VO.keep [1, 0] [(1, m1), (0, mout (wm W) (m0))] (by kernel_rfl) ?_
    refine VO.k5 0 1 2 6 8 ?_
    refine VC.ret ?_
    refine outBR ?_
    refine outR ?_
    refine ⟨_, _, res_run (rs := [.tmp 6]) rfl (.tmp rfl .nil), fun W_ hI => out_of (l := [m1]) hI [1] rfl rfl (mle_refl _) (fun hS_ => ?_)⟩
    dsimp only [packV]
    have hm0_ : ((dStart d0 d1 d2).1 : DdiskDisk) = d0 := by first | rfl | (first | (rw [start_bad1 (by assumption)] <;> rfl) | (rw [start_bad2 (by assumption) (.inl (by simpa using ‹_›))] <;> rfl) | (rw [start_bad2 (by assumption) (.inr (.inl (by assumption)))] <;> rfl) | (rw [start_bad2 (by assumption) (.inr (.inr (by assumption)))] <;> rfl) | (rw [start_go (by assumption) (by simpa using ‹_›) (by assumption) (by assumption), torn_nil (by omega)] <;> rfl) | (rw [start_go (by assumption) (by simpa using ‹_›) (by assumption) (by assumption), torn_no (by assumption) (by assumption)] <;> rfl) | (rw [start_go (by assumption) (by simpa using ‹_›) (by assumption) (by assumption), torn_yes (by assumption) (by assumption), stepQ, setQ0 ‹_ = (0 : Int)›, getF0 ‹_ = (0 : Int)›] <;> rfl) | (rw [start_go (by assumption) (by simpa using ‹_›) (by assumption) (by assumption), torn_yes (by assumption) (by assumption), stepQ, setQ1 ‹_ = (1 : Int)›, getF1 ‹_ = (1 : Int)›] <;> rfl) | (rw [start_go (by assumption) (by simpa using ‹_›) (by assumption) (by assumption), torn_yes (by assumption) (by assumption), stepQ, setQ2 ‹_ = (2 : Int)›, getF2 ‹_ = (2 : Int)›] <;> rfl) | (rw [start_go (by assumption) (by simpa using ‹_›) (by assumption) (by assumption), torn_yes (by assumption) (by assumption), stepQ, setQ3 ‹_ = (3 : Int)›, getF3 ‹_ = (3 : Int)›] <;> rfl))
    refine ⟨?_, ?_⟩
    rotate_left
    · rw [hm0_]; exact (Ow.up w1_0 (hS_.1 _ (.head _)))
    all_goals (first | rfl | (first | (rw [start_bad1 (by assumption)] <;> rfl) | (rw [start_bad2 (by assumption) (.inl (by simpa using ‹_›))] <;> rfl) | (rw [start_bad2 (by assumption) (.inr (.inl (by assumption)))] <;> rfl) | (rw [start_bad2 (by assumption) (.inr (.inr (by assumption)))] <;> rfl) | (rw [start_go (by assumption) (by simpa using ‹_›) (by assumption) (by assumption), torn_nil (by omega)] <;> rfl) | (rw [start_go (by assumption) (by simpa using ‹_›) (by assumption) (by assumption), torn_no (by assumption) (by assumption)] <;> rfl) | (rw [start_go (by assumption) (by simpa using ‹_›) (by assumption) (by assumption), torn_yes (by assumption) (by assumption), stepQ, setQ0 ‹_ = (0 : Int)›, getF0 ‹_ = (0 : Int)›] <;> rfl) | (rw [start_go (by assumption) (by simpa using ‹_›) (by assumption) (by assumption), torn_yes (by assumption) (by assumption), stepQ, setQ1 ‹_ = (1 : Int)›, getF1 ‹_ = (1 : Int)›] <;> rfl) | (rw [start_go (by assumption) (by simpa using ‹_›) (by assumption) (by assumption), torn_yes (by assumption) (by assumption), stepQ, setQ2 ‹_ = (2 : Int)›, getF2 ‹_ = (2 : Int)›] <;> rfl) | (rw [start_go (by assumption) (by simpa using ‹_›) (by assumption) (by assumption), torn_yes (by assumption) (by assumption), stepQ, setQ3 ‹_ = (3 : Int)›, getF3 ‹_ = (3 : Int)›] <;> rfl)))
  · -- F
    refine VC.rs ?_
    refine VO.mv ?_
    refine VO.y rfl (.nilp rfl) ?_
    refine VO.y rfl (.fa rfl tst72 rfl) ?_
    obtain ⟨q3_E, q3_A5, q3_c5, q3_A6, q3_c6, q3_A7, q3_c7, q3_A8, q3_c8, q3_A9, q3_c9, q3_n5, q3_n6, q3_n7, q3_n8, q3_n9, _, q3_S, q3_3, q3_4, q3_5, q3_6, q3_7, q3_8, q3_9⟩ := openP_diskDisk (x0 := d0.1) (x1 := d0.2.1) (x2 := d0.2.2.1) (x3 := d0.2.2.2.1) (x4 := d0.2.2.2.2.1) (x5 := d0.2.2.2.2.2.1.1) (x6 := d0.2.2.2.2.2.1.2.1) (x7 := d0.2.2.2.2.2.1.2.2.1) (x8 := d0.2.2.2.2.2.1.2.2.2) (x9 := d0.2.2.2.2.2.2) w1_0
    simp only [inK] at q3_3
    simp only [inK] at q3_4
    have q3_r5 := Rd.room (q3_5.rd (mle_refl _))
    have q3_r6 := Rd.room (q3_6.rd (mle_refl _))
    have q3_r7 := Rd.room (q3_7.rd (mle_refl _))
    have q3_r8 := Rd.room (q3_8.rd (mle_refl _))
    have q3_r9 := Rd.room (q3_9.rd (mle_refl _))
    refine VO.inv _ (fun _ h => h.parts (i := 1) rfl q3_S [109, 104, 105, 106, 107, 108]) ?_
    refine VO.y rfl (.ld1 109 rfl tk4 rfl (cellsAt_one rfl rfl)) ?_
    refine VO.y rfl (.not rfl) ?_
    refine VO.mv ?_
    refine VO.decBN (t := 17) rfl (fun hc10 => ?_) (fun hc10 => ?_)
    · -- FT
      refine VO.gN ?_
      refine VO.gN ?_
      refine VO.y rfl (.pT rfl rfl) ?_
      refine VO.mv ?_
      refine VO.gN ?_
      refine VO.gN ?_
      refine VO.y rfl (.pT rfl rfl) ?_
      refine VO.as ?_
      refine VO.gather (l := [mone g0 (.cells [Value.bool d0.1, Value.bool d0.2.1, Value.bool d0.2.2.1, Value.int .i64 (d0.2.2.2.1), Value.int .i64 (d0.2.2.2.2.1), Value.slice q3_A5 (d0.2.2.2.2.2.1.1.length) (q3_c5), Value.slice q3_A6 (d0.2.2.2.2.2.1.2.1.length) (q3_c6), Value.slice q3_A7 (d0.2.2.2.2.2.1.2.2.1.length) (q3_c7), Value.slice q3_A8 (d0.2.2.2.2.2.1.2.2.2.length) (q3_c8), Value.slice q3_A9 (d0.2.2.2.2.2.2.length) (q3_c9)].toArray q3_E (0, 0)), q3_n5, q3_n6, q3_n7, q3_n8, q3_n9]) 111 [109, 104, 105, 106, 107, 108] rfl (fun hg11 => ?_)
      have ho11 : Ow (.ptr TdiskDisk) (muns [mone g0 (.cells [Value.bool d0.1, Value.bool d0.2.1, Value.bool d0.2.2.1, Value.int .i64 (d0.2.2.2.1), Value.int .i64 (d0.2.2.2.2.1), Value.slice q3_A5 (d0.2.2.2.2.2.1.1.length) (q3_c5), Value.slice q3_A6 (d0.2.2.2.2.2.1.2.1.length) (q3_c6), Value.slice q3_A7 (d0.2.2.2.2.2.1.2.2.1.length) (q3_c7), Value.slice q3_A8 (d0.2.2.2.2.2.1.2.2.2.length) (q3_c8), Value.slice q3_A9 (d0.2.2.2.2.2.2.length) (q3_c9)].toArray q3_E (0, 0)), q3_n5, q3_n6, q3_n7, q3_n8, q3_n9]) [.pointer (some ⟨g0, 0, none⟩)] (g0, d0) := (show Ow (.ptr TdiskDisk) _ _ (_, d0) from (mkP_diskDisk d0.1 d0.2.1 d0.2.2.1 d0.2.2.2.1 d0.2.2.2.2.1 d0.2.2.2.2.2.1.1 d0.2.2.2.2.2.1.2.1 d0.2.2.2.2.2.1.2.2.1 d0.2.2.2.2.2.1.2.2.2 d0.2.2.2.2.2.2 hg11 (by simp only [inK]; (first | omega | (simp only [List.length_append, List.length_nil, List.length_cons, List.length_take, List.length_drop] at *; omega) | (have h_ := start_good (by assumption) ‹_[0]? = some _›; simp only [inF] at h_; omega))) (by simp only [inK]; (first | omega | (simp only [List.length_append, List.length_nil, List.length_cons, List.length_take, List.length_drop] at *; omega) | (have h_ := start_good (by assumption) ‹_[0]? = some _›; simp only [inF] at h_; omega))) (OwnL.ow (Ow.ownl q3_5 rfl mnil) rfl) (OwnL.ow (Ow.ownl q3_6 rfl mnil) rfl) (OwnL.ow (Ow.ownl q3_7 rfl mnil) rfl) (OwnL.ow (Ow.ownl q3_8 rfl mnil) rfl) q3_9))
      refine VO.keep [111, 0] [(111, muns [mone g0 (.cells [Value.bool d0.1, Value.bool d0.2.1, Value.bool d0.2.2.1, Value.int .i64 (d0.2.2.2.1), Value.int .i64 (d0.2.2.2.2.1), Value.slice q3_A5 (d0.2.2.2.2.2.1.1.length) (q3_c5), Value.slice q3_A6 (d0.2.2.2.2.2.1.2.1.length) (q3_c6), Value.slice q3_A7 (d0.2.2.2.2.2.1.2.2.1.length) (q3_c7), Value.slice q3_A8 (d0.2.2.2.2.2.1.2.2.2.length) (q3_c8), Value.slice q3_A9 (d0.2.2.2.2.2.2.length) (q3_c9)].toArray q3_E (0, 0)), q3_n5, q3_n6, q3_n7, q3_n8, q3_n9]), (0, mout (wm W) (m0))] (by kernel_rfl) ?_
      refine VO.k6 0 1 2 6 8 11 ?_
      refine VC.condT rfl ?_
      refine VC.rs ?_
      refine VO.as ?_
      refine VO.k6 0 1 2 6 8 11 ?_
      refine VC.ret ?_
      refine outBR ?_
      refine outR ?_
      refine ⟨_, _, res_run (rs := [.tmp 6]) rfl (.tmp rfl .nil), fun W_ hI => out_of (l := [muns [mone g0 (.cells [Value.bool d0.1, Value.bool d0.2.1, Value.bool d0.2.2.1, Value.int .i64 (d0.2.2.2.1), Value.int .i64 (d0.2.2.2.2.1), Value.slice q3_A5 (d0.2.2.2.2.2.1.1.length) (q3_c5), Value.slice q3_A6 (d0.2.2.2.2.2.1.2.1.length) (q3_c6), Value.slice q3_A7 (d0.2.2.2.2.2.1.2.2.1.length) (q3_c7), Value.slice q3_A8 (d0.2.2.2.2.2.1.2.2.2.length) (q3_c8), Value.slice q3_A9 (d0.2.2.2.2.2.2.length) (q3_c9)].toArray q3_E (0, 0)), q3_n5, q3_n6, q3_n7, q3_n8, q3_n9]]) hI [111] rfl rfl (mle_refl _) (fun hS_ => ?_)⟩
      dsimp only [packV]
      have hm0_ : ((dStart d0 d1 d2).1 : DdiskDisk) = d0 := by first | rfl | (first | (rw [start_bad1 (by assumption)] <;> rfl) | (rw [start_bad2 (by assumption) (.inl (by simpa using ‹_›))] <;> rfl) | (rw [start_bad2 (by assumption) (.inr (.inl (by assumption)))] <;> rfl) | (rw [start_bad2 (by assumption) (.inr (.inr (by assumption)))] <;> rfl) | (rw [start_go (by assumption) (by simpa using ‹_›) (by assumption) (by assumption), torn_nil (by omega)] <;> rfl) | (rw [start_go (by assumption) (by simpa using ‹_›) (by assumption) (by assumption), torn_no (by assumption) (by assumption)] <;> rfl) | (rw [start_go (by assumption) (by simpa using ‹_›) (by assumption) (by assumption), torn_yes (by assumption) (by assumption), stepQ, setQ0 ‹_ = (0 : Int)›, getF0 ‹_ = (0 : Int)›] <;> rfl) | (rw [start_go (by assumption) (by simpa using ‹_›) (by assumption) (by assumption), torn_yes (by assumption) (by assumption), stepQ, setQ1 ‹_ = (1 : Int)›, getF1 ‹_ = (1 : Int)›] <;> rfl) | (rw [start_go (by assumption) (by simpa using ‹_›) (by assumption) (by assumption), torn_yes (by assumption) (by assumption), stepQ, setQ2 ‹_ = (2 : Int)›, getF2 ‹_ = (2 : Int)›] <;> rfl) | (rw [start_go (by assumption) (by simpa using ‹_›) (by assumption) (by assumption), torn_yes (by assumption) (by assumption), stepQ, setQ3 ‹_ = (3 : Int)›, getF3 ‹_ = (3 : Int)›] <;> rfl))
      refine ⟨?_, ?_⟩
      rotate_left
      · rw [hm0_]; exact (Ow.up ho11 (hS_.1 _ (.head _)))
      all_goals (first | rfl | (first | (rw [start_bad1 (by assumption)] <;> rfl) | (rw [start_bad2 (by assumption) (.inl (by simpa using ‹_›))] <;> rfl) | (rw [start_bad2 (by assumption) (.inr (.inl (by assumption)))] <;> rfl) | (rw [start_bad2 (by assumption) (.inr (.inr (by assumption)))] <;> rfl) | (rw [start_go (by assumption) (by simpa using ‹_›) (by assumption) (by assumption), torn_nil (by omega)] <;> rfl) | (rw [start_go (by assumption) (by simpa using ‹_›) (by assumption) (by assumption), torn_no (by assumption) (by assumption)] <;> rfl) | (rw [start_go (by assumption) (by simpa using ‹_›) (by assumption) (by assumption), torn_yes (by assumption) (by assumption), stepQ, setQ0 ‹_ = (0 : Int)›, getF0 ‹_ = (0 : Int)›] <;> rfl) | (rw [start_go (by assumption) (by simpa using ‹_›) (by assumption) (by assumption), torn_yes (by assumption) (by assumption), stepQ, setQ1 ‹_ = (1 : Int)›, getF1 ‹_ = (1 : Int)›] <;> rfl) | (rw [start_go (by assumption) (by simpa using ‹_›) (by assumption) (by assumption), torn_yes (by assumption) (by assumption), stepQ, setQ2 ‹_ = (2 : Int)›, getF2 ‹_ = (2 : Int)›] <;> rfl) | (rw [start_go (by assumption) (by simpa using ‹_›) (by assumption) (by assumption), torn_yes (by assumption) (by assumption), stepQ, setQ3 ‹_ = (3 : Int)›, getF3 ‹_ = (3 : Int)›] <;> rfl)))
    · -- FF
      refine VO.gy rfl ⟨_, rfl, rfl⟩ (.mv rfl) ?_
      refine VO.gy rfl ⟨_, rfl, rfl⟩ (.lss rfl rfl) ?_
      refine VO.y rfl (.pF rfl rfl) ?_
      refine VO.mv ?_
      refine VO.dec (t := 21) rfl (fun hc12 => ?_) (fun hc12 => ?_)
      · -- FFT
        refine VO.gN ?_
        refine VO.gN ?_
        refine VO.y rfl (.pT rfl rfl) ?_
        refine VO.as ?_
        refine VO.gather (l := [mone g0 (.cells [Value.bool d0.1, Value.bool d0.2.1, Value.bool d0.2.2.1, Value.int .i64 (d0.2.2.2.1), Value.int .i64 (d0.2.2.2.2.1), Value.slice q3_A5 (d0.2.2.2.2.2.1.1.length) (q3_c5), Value.slice q3_A6 (d0.2.2.2.2.2.1.2.1.length) (q3_c6), Value.slice q3_A7 (d0.2.2.2.2.2.1.2.2.1.length) (q3_c7), Value.slice q3_A8 (d0.2.2.2.2.2.1.2.2.2.length) (q3_c8), Value.slice q3_A9 (d0.2.2.2.2.2.2.length) (q3_c9)].toArray q3_E (0, 0)), q3_n5, q3_n6, q3_n7, q3_n8, q3_n9]) 113 [109, 104, 105, 106, 107, 108] rfl (fun hg13 => ?_)
        have ho13 : Ow (.ptr TdiskDisk) (muns [mone g0 (.cells [Value.bool d0.1, Value.bool d0.2.1, Value.bool d0.2.2.1, Value.int .i64 (d0.2.2.2.1), Value.int .i64 (d0.2.2.2.2.1), Value.slice q3_A5 (d0.2.2.2.2.2.1.1.length) (q3_c5), Value.slice q3_A6 (d0.2.2.2.2.2.1.2.1.length) (q3_c6), Value.slice q3_A7 (d0.2.2.2.2.2.1.2.2.1.length) (q3_c7), Value.slice q3_A8 (d0.2.2.2.2.2.1.2.2.2.length) (q3_c8), Value.slice q3_A9 (d0.2.2.2.2.2.2.length) (q3_c9)].toArray q3_E (0, 0)), q3_n5, q3_n6, q3_n7, q3_n8, q3_n9]) [.pointer (some ⟨g0, 0, none⟩)] (g0, d0) := (show Ow (.ptr TdiskDisk) _ _ (_, d0) from (mkP_diskDisk d0.1 d0.2.1 d0.2.2.1 d0.2.2.2.1 d0.2.2.2.2.1 d0.2.2.2.2.2.1.1 d0.2.2.2.2.2.1.2.1 d0.2.2.2.2.2.1.2.2.1 d0.2.2.2.2.2.1.2.2.2 d0.2.2.2.2.2.2 hg13 (by simp only [inK]; (first | omega | (simp only [List.length_append, List.length_nil, List.length_cons, List.length_take, List.length_drop] at *; omega) | (have h_ := start_good (by assumption) ‹_[0]? = some _›; simp only [inF] at h_; omega))) (by simp only [inK]; (first | omega | (simp only [List.length_append, List.length_nil, List.length_cons, List.length_take, List.length_drop] at *; omega) | (have h_ := start_good (by assumption) ‹_[0]? = some _›; simp only [inF] at h_; omega))) (OwnL.ow (Ow.ownl q3_5 rfl mnil) rfl) (OwnL.ow (Ow.ownl q3_6 rfl mnil) rfl) (OwnL.ow (Ow.ownl q3_7 rfl mnil) rfl) (OwnL.ow (Ow.ownl q3_8 rfl mnil) rfl) q3_9))
        refine VO.keep [113, 0] [(113, muns [mone g0 (.cells [Value.bool d0.1, Value.bool d0.2.1, Value.bool d0.2.2.1, Value.int .i64 (d0.2.2.2.1), Value.int .i64 (d0.2.2.2.2.1), Value.slice q3_A5 (d0.2.2.2.2.2.1.1.length) (q3_c5), Value.slice q3_A6 (d0.2.2.2.2.2.1.2.1.length) (q3_c6), Value.slice q3_A7 (d0.2.2.2.2.2.1.2.2.1.length) (q3_c7), Value.slice q3_A8 (d0.2.2.2.2.2.1.2.2.2.length) (q3_c8), Value.slice q3_A9 (d0.2.2.2.2.2.2.length) (q3_c9)].toArray q3_E (0, 0)), q3_n5, q3_n6, q3_n7, q3_n8, q3_n9]), (0, mout (wm W) (m0))] (by kernel_rfl) ?_
        refine VO.k6 0 1 2 6 8 11 ?_
        refine VC.condT rfl ?_
        refine VC.rs ?_
        refine VO.as ?_
        refine VO.k6 0 1 2 6 8 11 ?_
        refine VC.ret ?_
        refine outBR ?_
        refine outR ?_
        refine ⟨_, _, res_run (rs := [.tmp 6]) rfl (.tmp rfl .nil), fun W_ hI => out_of (l := [muns [mone g0 (.cells [Value.bool d0.1, Value.bool d0.2.1, Value.bool d0.2.2.1, Value.int .i64 (d0.2.2.2.1), Value.int .i64 (d0.2.2.2.2.1), Value.slice q3_A5 (d0.2.2.2.2.2.1.1.length) (q3_c5), Value.slice q3_A6 (d0.2.2.2.2.2.1.2.1.length) (q3_c6), Value.slice q3_A7 (d0.2.2.2.2.2.1.2.2.1.length) (q3_c7), Value.slice q3_A8 (d0.2.2.2.2.2.1.2.2.2.length) (q3_c8), Value.slice q3_A9 (d0.2.2.2.2.2.2.length) (q3_c9)].toArray q3_E (0, 0)), q3_n5, q3_n6, q3_n7, q3_n8, q3_n9]]) hI [113] rfl rfl (mle_refl _) (fun hS_ => ?_)⟩
        dsimp only [packV]
        have hm0_ : ((dStart d0 d1 d2).1 : DdiskDisk) = d0 := by first | rfl | (first | (rw [start_bad1 (by assumption)] <;> rfl) | (rw [start_bad2 (by assumption) (.inl (by simpa using ‹_›))] <;> rfl) | (rw [start_bad2 (by assumption) (.inr (.inl (by assumption)))] <;> rfl) | (rw [start_bad2 (by assumption) (.inr (.inr (by assumption)))] <;> rfl) | (rw [start_go (by assumption) (by simpa using ‹_›) (by assumption) (by assumption), torn_nil (by omega)] <;> rfl) | (rw [start_go (by assumption) (by simpa using ‹_›) (by assumption) (by assumption), torn_no (by assumption) (by assumption)] <;> rfl) | (rw [start_go (by assumption) (by simpa using ‹_›) (by assumption) (by assumption), torn_yes (by assumption) (by assumption), stepQ, setQ0 ‹_ = (0 : Int)›, getF0 ‹_ = (0 : Int)›] <;> rfl) | (rw [start_go (by assumption) (by simpa using ‹_›) (by assumption) (by assumption), torn_yes (by assumption) (by assumption), stepQ, setQ1 ‹_ = (1 : Int)›, getF1 ‹_ = (1 : Int)›] <;> rfl) | (rw [start_go (by assumption) (by simpa using ‹_›) (by assumption) (by assumption), torn_yes (by assumption) (by assumption), stepQ, setQ2 ‹_ = (2 : Int)›, getF2 ‹_ = (2 : Int)›] <;> rfl) | (rw [start_go (by assumption) (by simpa using ‹_›) (by assumption) (by assumption), torn_yes (by assumption) (by assumption), stepQ, setQ3 ‹_ = (3 : Int)›, getF3 ‹_ = (3 : Int)›] <;> rfl))
        refine ⟨?_, ?_⟩
        rotate_left
        · rw [hm0_]; exact (Ow.up ho13 (hS_.1 _ (.head _)))
        all_goals (first | rfl | (first | (rw [start_bad1 (by assumption)] <;> rfl) | (rw [start_bad2 (by assumption) (.inl (by simpa using ‹_›))] <;> rfl) | (rw [start_bad2 (by assumption) (.inr (.inl (by assumption)))] <;> rfl) | (rw [start_bad2 (by assumption) (.inr (.inr (by assumption)))] <;> rfl) | (rw [start_go (by assumption) (by simpa using ‹_›) (by assumption) (by assumption), torn_nil (by omega)] <;> rfl) | (rw [start_go (by assumption) (by simpa using ‹_›) (by assumption) (by assumption), torn_no (by assumption) (by assumption)] <;> rfl) | (rw [start_go (by assumption) (by simpa using ‹_›) (by assumption) (by assumption), torn_yes (by assumption) (by assumption), stepQ, setQ0 ‹_ = (0 : Int)›, getF0 ‹_ = (0 : Int)›] <;> rfl) | (rw [start_go (by assumption) (by simpa using ‹_›) (by assumption) (by assumption), torn_yes (by assumption) (by assumption), stepQ, setQ1 ‹_ = (1 : Int)›, getF1 ‹_ = (1 : Int)›] <;> rfl) | (rw [start_go (by assumption) (by simpa using ‹_›) (by assumption) (by assumption), torn_yes (by assumption) (by assumption), stepQ, setQ2 ‹_ = (2 : Int)›, getF2 ‹_ = (2 : Int)›] <;> rfl) | (rw [start_go (by assumption) (by simpa using ‹_›) (by assumption) (by assumption), torn_yes (by assumption) (by assumption), stepQ, setQ3 ‹_ = (3 : Int)›, getF3 ‹_ = (3 : Int)›] <;> rfl)))
      · -- FFF
        refine VO.gy rfl ⟨_, rfl, rfl⟩ (.mv rfl) ?_
        refine VO.gy rfl ⟨_, rfl, rfl⟩ (.lss rfl rfl) ?_
        refine VO.y rfl (.pF rfl rfl) ?_
        refine VO.as ?_
        refine VO.gather (l := [mone g0 (.cells [Value.bool d0.1, Value.bool d0.2.1, Value.bool d0.2.2.1, Value.int .i64 (d0.2.2.2.1), Value.int .i64 (d0.2.2.2.2.1), Value.slice q3_A5 (d0.2.2.2.2.2.1.1.length) (q3_c5), Value.slice q3_A6 (d0.2.2.2.2.2.1.2.1.length) (q3_c6), Value.slice q3_A7 (d0.2.2.2.2.2.1.2.2.1.length) (q3_c7), Value.slice q3_A8 (d0.2.2.2.2.2.1.2.2.2.length) (q3_c8), Value.slice q3_A9 (d0.2.2.2.2.2.2.length) (q3_c9)].toArray q3_E (0, 0)), q3_n5, q3_n6, q3_n7, q3_n8, q3_n9]) 114 [109, 104, 105, 106, 107, 108] rfl (fun hg14 => ?_)
        have ho14 : Ow (.ptr TdiskDisk) (muns [mone g0 (.cells [Value.bool d0.1, Value.bool d0.2.1, Value.bool d0.2.2.1, Value.int .i64 (d0.2.2.2.1), Value.int .i64 (d0.2.2.2.2.1), Value.slice q3_A5 (d0.2.2.2.2.2.1.1.length) (q3_c5), Value.slice q3_A6 (d0.2.2.2.2.2.1.2.1.length) (q3_c6), Value.slice q3_A7 (d0.2.2.2.2.2.1.2.2.1.length) (q3_c7), Value.slice q3_A8 (d0.2.2.2.2.2.1.2.2.2.length) (q3_c8), Value.slice q3_A9 (d0.2.2.2.2.2.2.length) (q3_c9)].toArray q3_E (0, 0)), q3_n5, q3_n6, q3_n7, q3_n8, q3_n9]) [.pointer (some ⟨g0, 0, none⟩)] (g0, d0) := (show Ow (.ptr TdiskDisk) _ _ (_, d0) from (mkP_diskDisk d0.1 d0.2.1 d0.2.2.1 d0.2.2.2.1 d0.2.2.2.2.1 d0.2.2.2.2.2.1.1 d0.2.2.2.2.2.1.2.1 d0.2.2.2.2.2.1.2.2.1 d0.2.2.2.2.2.1.2.2.2 d0.2.2.2.2.2.2 hg14 (by simp only [inK]; (first | omega | (simp only [List.length_append, List.length_nil, List.length_cons, List.length_take, List.length_drop] at *; omega) | (have h_ := start_good (by assumption) ‹_[0]? = some _›; simp only [inF] at h_; omega))) (by simp only [inK]; (first | omega | (simp only [List.length_append, List.length_nil, List.length_cons, List.length_take, List.length_drop] at *; omega) | (have h_ := start_good (by assumption) ‹_[0]? = some _›; simp only [inF] at h_; omega))) (OwnL.ow (Ow.ownl q3_5 rfl mnil) rfl) (OwnL.ow (Ow.ownl q3_6 rfl mnil) rfl) (OwnL.ow (Ow.ownl q3_7 rfl mnil) rfl) (OwnL.ow (Ow.ownl q3_8 rfl mnil) rfl) q3_9))
        refine VO.keep [114, 0] [(114, muns [mone g0 (.cells [Value.bool d0.1, Value.bool d0.2.1, Value.bool d0.2.2.1, Value.int .i64 (d0.2.2.2.1), Value.int .i64 (d0.2.2.2.2.1), Value.slice q3_A5 (d0.2.2.2.2.2.1.1.length) (q3_c5), Value.slice q3_A6 (d0.2.2.2.2.2.1.2.1.length) (q3_c6), Value.slice q3_A7 (d0.2.2.2.2.2.1.2.2.1.length) (q3_c7), Value.slice q3_A8 (d0.2.2.2.2.2.1.2.2.2.length) (q3_c8), Value.slice q3_A9 (d0.2.2.2.2.2.2.length) (q3_c9)].toArray q3_E (0, 0)), q3_n5, q3_n6, q3_n7, q3_n8, q3_n9]), (0, mout (wm W) (m0))] (by kernel_rfl) ?_
        refine VO.k6 0 1 2 6 8 11 ?_
        refine VC.cond rfl (fun hc15 => ?_) (fun hc15 => ?_)
        · -- FFFT
          refine VC.rs ?_
          refine VO.as ?_
          refine VO.k6 0 1 2 6 8 11 ?_
          refine VC.ret ?_
          refine outBR ?_
          refine outR ?_
          refine ⟨_, _, res_run (rs := [.tmp 6]) rfl (.tmp rfl .nil), fun W_ hI => out_of (l := [muns [mone g0 (.cells [Value.bool d0.1, Value.bool d0.2.1, Value.bool d0.2.2.1, Value.int .i64 (d0.2.2.2.1), Value.int .i64 (d0.2.2.2.2.1), Value.slice q3_A5 (d0.2.2.2.2.2.1.1.length) (q3_c5), Value.slice q3_A6 (d0.2.2.2.2.2.1.2.1.length) (q3_c6), Value.slice q3_A7 (d0.2.2.2.2.2.1.2.2.1.length) (q3_c7), Value.slice q3_A8 (d0.2.2.2.2.2.1.2.2.2.length) (q3_c8), Value.slice q3_A9 (d0.2.2.2.2.2.2.length) (q3_c9)].toArray q3_E (0, 0)), q3_n5, q3_n6, q3_n7, q3_n8, q3_n9]]) hI [114] rfl rfl (mle_refl _) (fun hS_ => ?_)⟩
          dsimp only [packV]
          have hm0_ : ((dStart d0 d1 d2).1 : DdiskDisk) = d0 := by first | rfl | (first | (rw [start_bad1 (by assumption)] <;> rfl) | (rw [start_bad2 (by assumption) (.inl (by simpa using ‹_›))] <;> rfl) | (rw [start_bad2 (by assumption) (.inr (.inl (by assumption)))] <;> rfl) | (rw [start_bad2 (by assumption) (.inr (.inr (by assumption)))] <;> rfl) | (rw [start_go (by assumption) (by simpa using ‹_›) (by assumption) (by assumption), torn_nil (by omega)] <;> rfl) | (rw [start_go (by assumption) (by simpa using ‹_›) (by assumption) (by assumption), torn_no (by assumption) (by assumption)] <;> rfl) | (rw [start_go (by assumption) (by simpa using ‹_›) (by assumption) (by assumption), torn_yes (by assumption) (by assumption), stepQ, setQ0 ‹_ = (0 : Int)›, getF0 ‹_ = (0 : Int)›] <;> rfl) | (rw [start_go (by assumption) (by simpa using ‹_›) (by assumption) (by assumption), torn_yes (by assumption) (by assumption), stepQ, setQ1 ‹_ = (1 : Int)›, getF1 ‹_ = (1 : Int)›] <;> rfl) | (rw [start_go (by assumption) (by simpa using ‹_›) (by assumption) (by assumption), torn_yes (by assumption) (by assumption), stepQ, setQ2 ‹_ = (2 : Int)›, getF2 ‹_ = (2 : Int)›] <;> rfl) | (rw [start_go (by assumption) (by simpa using ‹_›) (by assumption) (by assumption), torn_yes (by assumption) (by assumption), stepQ, setQ3 ‹_ = (3 : Int)›, getF3 ‹_ = (3 : Int)›] <;> rfl))
          refine ⟨?_, ?_⟩
          rotate_left
          · rw [hm0_]; exact (Ow.up ho14 (hS_.1 _ (.head _)))
          all_goals (first | rfl | (first | (rw [start_bad1 (by assumption)] <;> rfl) | (rw [start_bad2 (by assumption) (.inl (by simpa using ‹_›))] <;> rfl) | (rw [start_bad2 (by assumption) (.inr (.inl (by assumption)))] <;> rfl) | (rw [start_bad2 (by assumption) (.inr (.inr (by assumption)))] <;> rfl) | (rw [start_go (by assumption) (by simpa using ‹_›) (by assumption) (by assumption), torn_nil (by omega)] <;> rfl) | (rw [start_go (by assumption) (by simpa using ‹_›) (by assumption) (by assumption), torn_no (by assumption) (by assumption)] <;> rfl) | (rw [start_go (by assumption) (by simpa using ‹_›) (by assumption) (by assumption), torn_yes (by assumption) (by assumption), stepQ, setQ0 ‹_ = (0 : Int)›, getF0 ‹_ = (0 : Int)›] <;> rfl) | (rw [start_go (by assumption) (by simpa using ‹_›) (by assumption) (by assumption), torn_yes (by assumption) (by assumption), stepQ, setQ1 ‹_ = (1 : Int)›, getF1 ‹_ = (1 : Int)›] <;> rfl) | (rw [start_go (by assumption) (by simpa using ‹_›) (by assumption) (by assumption), torn_yes (by assumption) (by assumption), stepQ, setQ2 ‹_ = (2 : Int)›, getF2 ‹_ = (2 : Int)›] <;> rfl) | (rw [start_go (by assumption) (by simpa using ‹_›) (by assumption) (by assumption), torn_yes (by assumption) (by assumption), stepQ, setQ3 ‹_ = (3 : Int)›, getF3 ‹_ = (3 : Int)›] <;> rfl)))
        · -- FFFF
          refine VC.skip ?_
          refine outBN ?_
          refine outN ?_
          refine VC.rs ?_
          refine VO.mv ?_
          refine VO.mv ?_
          refine VO.mv ?_
          refine VO.y rfl (.nilp rfl) ?_
          refine VO.y rfl (.fa rfl tst72 rfl) ?_
          obtain ⟨q16_E, q16_A5, q16_c5, q16_A6, q16_c6, q16_A7, q16_c7, q16_A8, q16_c8, q16_A9, q16_c9, q16_n5, q16_n6, q16_n7, q16_n8, q16_n9, _, q16_S, q16_3, q16_4, q16_5, q16_6, q16_7, q16_8, q16_9⟩ := openP_diskDisk (x0 := d0.1) (x1 := d0.2.1) (x2 := d0.2.2.1) (x3 := d0.2.2.2.1) (x4 := d0.2.2.2.2.1) (x5 := d0.2.2.2.2.2.1.1) (x6 := d0.2.2.2.2.2.1.2.1) (x7 := d0.2.2.2.2.2.1.2.2.1) (x8 := d0.2.2.2.2.2.1.2.2.2) (x9 := d0.2.2.2.2.2.2) ho14
          simp only [inK] at q16_3
          simp only [inK] at q16_4
          have q16_r5 := Rd.room (q16_5.rd (mle_refl _))
          have q16_r6 := Rd.room (q16_6.rd (mle_refl _))
          have q16_r7 := Rd.room (q16_7.rd (mle_refl _))
          have q16_r8 := Rd.room (q16_8.rd (mle_refl _))
          have q16_r9 := Rd.room (q16_9.rd (mle_refl _))
          refine VO.inv _ (fun _ h => h.parts (i := 114) rfl q16_S [122, 117, 118, 119, 120, 121]) ?_
          refine VO.y rfl (.ld1 122 rfl tk70 rfl (cellsAt_one rfl rfl)) ?_
          refine VO.y rfl (.lenS rfl tsl70) ?_
          refine VO.y rfl (.minM rfl rfl) ?_
          refine VO.gather (l := [mone g0 (.cells [Value.bool d0.1, Value.bool d0.2.1, Value.bool d0.2.2.1, Value.int .i64 (d0.2.2.2.1), Value.int .i64 (d0.2.2.2.2.1), Value.slice q16_A5 (d0.2.2.2.2.2.1.1.length) (q16_c5), Value.slice q16_A6 (d0.2.2.2.2.2.1.2.1.length) (q16_c6), Value.slice q16_A7 (d0.2.2.2.2.2.1.2.2.1.length) (q16_c7), Value.slice q16_A8 (d0.2.2.2.2.2.1.2.2.2.length) (q16_c8), Value.slice q16_A9 (d0.2.2.2.2.2.2.length) (q16_c9)].toArray q16_E (0, 0)), q16_n5, q16_n6, q16_n7, q16_n8, q16_n9]) 124 [122, 117, 118, 119, 120, 121] rfl (fun hg24 => ?_)
          have ho24 : Ow (.ptr TdiskDisk) (muns [mone g0 (.cells [Value.bool d0.1, Value.bool d0.2.1, Value.bool d0.2.2.1, Value.int .i64 (d0.2.2.2.1), Value.int .i64 (d0.2.2.2.2.1), Value.slice q16_A5 (d0.2.2.2.2.2.1.1.length) (q16_c5), Value.slice q16_A6 (d0.2.2.2.2.2.1.2.1.length) (q16_c6), Value.slice q16_A7 (d0.2.2.2.2.2.1.2.2.1.length) (q16_c7), Value.slice q16_A8 (d0.2.2.2.2.2.1.2.2.2.length) (q16_c8), Value.slice q16_A9 (d0.2.2.2.2.2.2.length) (q16_c9)].toArray q16_E (0, 0)), q16_n5, q16_n6, q16_n7, q16_n8, q16_n9]) [.pointer (some ⟨g0, 0, none⟩)] (g0, d0) := (show Ow (.ptr TdiskDisk) _ _ (_, d0) from (mkP_diskDisk d0.1 d0.2.1 d0.2.2.1 d0.2.2.2.1 d0.2.2.2.2.1 d0.2.2.2.2.2.1.1 d0.2.2.2.2.2.1.2.1 d0.2.2.2.2.2.1.2.2.1 d0.2.2.2.2.2.1.2.2.2 d0.2.2.2.2.2.2 hg24 (by simp only [inK]; (first | omega | (simp only [List.length_append, List.length_nil, List.length_cons, List.length_take, List.length_drop] at *; omega) | (have h_ := start_good (by assumption) ‹_[0]? = some _›; simp only [inF] at h_; omega))) (by simp only [inK]; (first | omega | (simp only [List.length_append, List.length_nil, List.length_cons, List.length_take, List.length_drop] at *; omega) | (have h_ := start_good (by assumption) ‹_[0]? = some _›; simp only [inF] at h_; omega))) (OwnL.ow (Ow.ownl q16_5 rfl mnil) rfl) (OwnL.ow (Ow.ownl q16_6 rfl mnil) rfl) (OwnL.ow (Ow.ownl q16_7 rfl mnil) rfl) (OwnL.ow (Ow.ownl q16_8 rfl mnil) rfl) q16_9))
          refine VO.call 124 rfl fnOk79 rfl rfl (fun W hW => dSettle_ok W (hW.at (i := 124) rfl) ho24 (min d1 ((d0.2.2.2.2.2.2.length : Nat) : Int)) (by simp only [inK]; (first | omega | (simp only [List.length_append, List.length_nil, List.length_cons, List.length_take, List.length_drop] at *; omega) | (have h_ := start_good (by assumption) ‹_[0]? = some _›; simp only [inF] at h_; omega))) (by assumption) (by first | omega | (simp only [List.length_append, List.length_nil, List.length_cons, List.length_take, List.length_drop] at *; omega) | (have h_ := start_good (by assumption) ‹_[0]? = some _›; simp only [inF] at h_; omega)) (by first | omega | (simp only [List.length_append, List.length_nil, List.length_cons, List.length_take, List.length_drop] at *; omega) | (have h_ := start_good (by assumption) ‹_[0]? = some _›; simp only [inF] at h_; omega))) (fun v23 m23 hv23 => ?_)
          obtain ⟨rfl, w23_0⟩ := hv23
          have hfa25 := (settle_ok (min d1 ((d0.2.2.2.2.2.2.length : Nat) : Int)).toNat (show okD d0 by assumption))
          have hfa26 := (settle_w d0 (min d1 ((d0.2.2.2.2.2.2.length : Nat) : Int)).toNat)
          refine VO.k6 0 1 2 6 8 11 ?_
          refine VC.seq ?_
          refine VC.rs ?_
          refine VO.mv ?_
          refine VO.y rfl (.nilp rfl) ?_
          refine VO.y rfl (.fa rfl tst72 rfl) ?_
          obtain ⟨q27_E, q27_A5, q27_c5, q27_A6, q27_c6, q27_A7, q27_c7, q27_A8, q27_c8, q27_A9, q27_c9, q27_n5, q27_n6, q27_n7, q27_n8, q27_n9, _, q27_S, q27_3, q27_4, q27_5, q27_6, q27_7, q27_8, q27_9⟩ := openP_diskDisk (x0 := (settleD d0 (min d1 ((d0.2.2.2.2.2.2.length : Nat) : Int)).toNat).1) (x1 := (settleD d0 (min d1 ((d0.2.2.2.2.2.2.length : Nat) : Int)).toNat).2.1) (x2 := (settleD d0 (min d1 ((d0.2.2.2.2.2.2.length : Nat) : Int)).toNat).2.2.1) (x3 := (settleD d0 (min d1 ((d0.2.2.2.2.2.2.length : Nat) : Int)).toNat).2.2.2.1) (x4 := (settleD d0 (min d1 ((d0.2.2.2.2.2.2.length : Nat) : Int)).toNat).2.2.2.2.1) (x5 := ((settleD d0 (min d1 ((d0.2.2.2.2.2.2.length : Nat) : Int)).toNat).2.2.2.2.2.1).1) (x6 := ((settleD d0 (min d1 ((d0.2.2.2.2.2.2.length : Nat) : Int)).toNat).2.2.2.2.2.1).2.1) (x7 := ((settleD d0 (min d1 ((d0.2.2.2.2.2.2.length : Nat) : Int)).toNat).2.2.2.2.2.1).2.2.1) (x8 := ((settleD d0 (min d1 ((d0.2.2.2.2.2.2.length : Nat) : Int)).toNat).2.2.2.2.2.1).2.2.2) (x9 := (settleD d0 (min d1 ((d0.2.2.2.2.2.2.length : Nat) : Int)).toNat).2.2.2.2.2.2) w23_0
          simp only [inK] at q27_3
          simp only [inK] at q27_4
          have q27_r5 := Rd.room (q27_5.rd (mle_refl _))
          have q27_r6 := Rd.room (q27_6.rd (mle_refl _))
          have q27_r7 := Rd.room (q27_7.rd (mle_refl _))
          have q27_r8 := Rd.room (q27_8.rd (mle_refl _))
          have q27_r9 := Rd.room (q27_9.rd (mle_refl _))
          refine VO.inv _ (fun _ h => h.parts (i := 124) rfl q27_S [133, 128, 129, 130, 131, 132]) ?_
          refine VO.y rfl (.ld1 133 rfl tk70 rfl (cellsAt_one rfl rfl)) ?_
          refine VO.y rfl (.lenS rfl tsl70) ?_
          refine VO.y rfl (.gtr rfl rfl) ?_
          refine VO.mv ?_
          refine VO.dec (t := 40) rfl (fun hc34 => ?_) (fun hc34 => ?_)
          · -- FFFFT
            refine VO.gy rfl ⟨_, rfl, rfl⟩ (.mv rfl) ?_
            refine VO.gy rfl ⟨_, rfl, rfl⟩ (.nilp rfl) ?_
            refine VO.gy rfl ⟨_, rfl, rfl⟩ (.fa rfl tst72 rfl) ?_
            refine VO.gy rfl ⟨_, rfl, rfl⟩ (.ld1 133 rfl tk70 rfl (cellsAt_one rfl rfl)) ?_
            obtain ⟨x35, hx35⟩ : ∃ z_, ((settleD d0 (min d1 ((d0.2.2.2.2.2.2.length : Nat) : Int)).toNat).2.2.2.2.2.2)[0]? = some z_ := ⟨_, List.getElem?_eq_getElem (by first | omega | (simp only [List.length_append, List.length_nil, List.length_cons, List.length_take, List.length_drop] at *; omega) | (have h_ := start_good (by assumption) ‹_[0]? = some _›; simp only [inF] at h_; omega))⟩
            obtain ⟨gg35, oo35, ec35, ea35, hce35, hre35⟩ := (Ow.rd q27_9 (mle_refl _)).elem hx35
            cases ea35
            obtain ⟨q35_A2, q35_c2, rfl, q35_0, q35_1, q35_2, q35_3⟩ := open_diskstep (x0 := x35.1) (x1 := x35.2.1) (x2 := x35.2.2.1) (x3 := x35.2.2.2) hre35
            simp only [inK] at q35_0
            simp only [inK] at q35_1
            have q35_r2 := Rd.room q35_2
            simp only [inK] at q35_3
            refine VO.gy rfl ⟨_, rfl, rfl⟩ (.ixI 0 rfl rfl tsl70 rfl (by first | omega | (simp only [List.length_append, List.length_nil, List.length_cons, List.length_take, List.length_drop] at *; omega) | (have h_ := start_good (by assumption) ‹_[0]? = some _›; simp only [inF] at h_; omega))) ?_
            refine VO.gy rfl ⟨_, rfl, rfl⟩ (.fa rfl tst101 rfl) ?_
            refine VO.gy rfl ⟨_, rfl, rfl⟩ (.ld1 132 rfl tk3 rfl (hce35.at1 (j := 0) rfl)) ?_
            refine VO.gy rfl ⟨_, rfl, rfl⟩ (.eql rfl rfl) ?_
            refine VO.y rfl (.pT rfl rfl) ?_
            refine VO.gather (l := [mone g0 (.cells [Value.bool ((settleD d0 (min d1 ((d0.2.2.2.2.2.2.length : Nat) : Int)).toNat).1), Value.bool ((settleD d0 (min d1 ((d0.2.2.2.2.2.2.length : Nat) : Int)).toNat).2.1), Value.bool ((settleD d0 (min d1 ((d0.2.2.2.2.2.2.length : Nat) : Int)).toNat).2.2.1), Value.int .i64 ((settleD d0 (min d1 ((d0.2.2.2.2.2.2.length : Nat) : Int)).toNat).2.2.2.1), Value.int .i64 ((settleD d0 (min d1 ((d0.2.2.2.2.2.2.length : Nat) : Int)).toNat).2.2.2.2.1), Value.slice q27_A5 ((((settleD d0 (min d1 ((d0.2.2.2.2.2.2.length : Nat) : Int)).toNat).2.2.2.2.2.1).1).length) (q27_c5), Value.slice q27_A6 ((((settleD d0 (min d1 ((d0.2.2.2.2.2.2.length : Nat) : Int)).toNat).2.2.2.2.2.1).2.1).length) (q27_c6), Value.slice q27_A7 ((((settleD d0 (min d1 ((d0.2.2.2.2.2.2.length : Nat) : Int)).toNat).2.2.2.2.2.1).2.2.1).length) (q27_c7), Value.slice q27_A8 ((((settleD d0 (min d1 ((d0.2.2.2.2.2.2.length : Nat) : Int)).toNat).2.2.2.2.2.1).2.2.2).length) (q27_c8), Value.slice (some ⟨gg35, oo35, none⟩) (((settleD d0 (min d1 ((d0.2.2.2.2.2.2.length : Nat) : Int)).toNat).2.2.2.2.2.2).length) (q27_c9)].toArray q27_E (0, 0)), q27_n5, q27_n6, q27_n7, q27_n8, q27_n9]) 136 [133, 128, 129, 130, 131, 132] rfl (fun hg36 => ?_)
            have ho36 : Ow (.ptr TdiskDisk) (muns [mone g0 (.cells [Value.bool ((settleD d0 (min d1 ((d0.2.2.2.2.2.2.length : Nat) : Int)).toNat).1), Value.bool ((settleD d0 (min d1 ((d0.2.2.2.2.2.2.length : Nat) : Int)).toNat).2.1), Value.bool ((settleD d0 (min d1 ((d0.2.2.2.2.2.2.length : Nat) : Int)).toNat).2.2.1), Value.int .i64 ((settleD d0 (min d1 ((d0.2.2.2.2.2.2.length : Nat) : Int)).toNat).2.2.2.1), Value.int .i64 ((settleD d0 (min d1 ((d0.2.2.2.2.2.2.length : Nat) : Int)).toNat).2.2.2.2.1), Value.slice q27_A5 ((((settleD d0 (min d1 ((d0.2.2.2.2.2.2.length : Nat) : Int)).toNat).2.2.2.2.2.1).1).length) (q27_c5), Value.slice q27_A6 ((((settleD d0 (min d1 ((d0.2.2.2.2.2.2.length : Nat) : Int)).toNat).2.2.2.2.2.1).2.1).length) (q27_c6), Value.slice q27_A7 ((((settleD d0 (min d1 ((d0.2.2.2.2.2.2.length : Nat) : Int)).toNat).2.2.2.2.2.1).2.2.1).length) (q27_c7), Value.slice q27_A8 ((((settleD d0 (min d1 ((d0.2.2.2.2.2.2.length : Nat) : Int)).toNat).2.2.2.2.2.1).2.2.2).length) (q27_c8), Value.slice (some ⟨gg35, oo35, none⟩) (((settleD d0 (min d1 ((d0.2.2.2.2.2.2.length : Nat) : Int)).toNat).2.2.2.2.2.2).length) (q27_c9)].toArray q27_E (0, 0)), q27_n5, q27_n6, q27_n7, q27_n8, q27_n9]) [.pointer (some ⟨g0, 0, none⟩)] (g0, (settleD d0 (min d1 ((d0.2.2.2.2.2.2.length : Nat) : Int)).toNat)) := (show Ow (.ptr TdiskDisk) _ _ (_, (settleD d0 (min d1 ((d0.2.2.2.2.2.2.length : Nat) : Int)).toNat)) from (mkP_diskDisk ((settleD d0 (min d1 ((d0.2.2.2.2.2.2.length : Nat) : Int)).toNat).1) ((settleD d0 (min d1 ((d0.2.2.2.2.2.2.length : Nat) : Int)).toNat).2.1) ((settleD d0 (min d1 ((d0.2.2.2.2.2.2.length : Nat) : Int)).toNat).2.2.1) ((settleD d0 (min d1 ((d0.2.2.2.2.2.2.length : Nat) : Int)).toNat).2.2.2.1) ((settleD d0 (min d1 ((d0.2.2.2.2.2.2.length : Nat) : Int)).toNat).2.2.2.2.1) (((settleD d0 (min d1 ((d0.2.2.2.2.2.2.length : Nat) : Int)).toNat).2.2.2.2.2.1).1) (((settleD d0 (min d1 ((d0.2.2.2.2.2.2.length : Nat) : Int)).toNat).2.2.2.2.2.1).2.1) (((settleD d0 (min d1 ((d0.2.2.2.2.2.2.length : Nat) : Int)).toNat).2.2.2.2.2.1).2.2.1) (((settleD d0 (min d1 ((d0.2.2.2.2.2.2.length : Nat) : Int)).toNat).2.2.2.2.2.1).2.2.2) ((settleD d0 (min d1 ((d0.2.2.2.2.2.2.length : Nat) : Int)).toNat).2.2.2.2.2.2) hg36 (by simp only [inK]; (first | omega | (simp only [List.length_append, List.length_nil, List.length_cons, List.length_take, List.length_drop] at *; omega) | (have h_ := start_good (by assumption) ‹_[0]? = some _›; simp only [inF] at h_; omega))) (by simp only [inK]; (first | omega | (simp only [List.length_append, List.length_nil, List.length_cons, List.length_take, List.length_drop] at *; omega) | (have h_ := start_good (by assumption) ‹_[0]? = some _›; simp only [inF] at h_; omega))) (OwnL.ow (Ow.ownl q27_5 rfl mnil) rfl) (OwnL.ow (Ow.ownl q27_6 rfl mnil) rfl) (OwnL.ow (Ow.ownl q27_7 rfl mnil) rfl) (OwnL.ow (Ow.ownl q27_8 rfl mnil) rfl) q27_9))
            refine VO.k7 0 1 2 6 8 11 49 ?_
            refine VC.cond rfl (fun hc37 => ?_) (fun hc37 => ?_)
            · -- FFFFTT
              refine VC.rs ?_
              refine VO.mv ?_
              refine VO.y rfl (.nilp rfl) ?_
              refine VO.y rfl (.fa rfl tst72 rfl) ?_
              obtain ⟨q38_E, q38_A5, q38_c5, q38_A6, q38_c6, q38_A7, q38_c7, q38_A8, q38_c8, q38_A9, q38_c9, q38_n5, q38_n6, q38_n7, q38_n8, q38_n9, _, q38_S, q38_3, q38_4, q38_5, q38_6, q38_7, q38_8, q38_9⟩ := openP_diskDisk (x0 := (settleD d0 (min d1 ((d0.2.2.2.2.2.2.length : Nat) : Int)).toNat).1) (x1 := (settleD d0 (min d1 ((d0.2.2.2.2.2.2.length : Nat) : Int)).toNat).2.1) (x2 := (settleD d0 (min d1 ((d0.2.2.2.2.2.2.length : Nat) : Int)).toNat).2.2.1) (x3 := (settleD d0 (min d1 ((d0.2.2.2.2.2.2.length : Nat) : Int)).toNat).2.2.2.1) (x4 := (settleD d0 (min d1 ((d0.2.2.2.2.2.2.length : Nat) : Int)).toNat).2.2.2.2.1) (x5 := ((settleD d0 (min d1 ((d0.2.2.2.2.2.2.length : Nat) : Int)).toNat).2.2.2.2.2.1).1) (x6 := ((settleD d0 (min d1 ((d0.2.2.2.2.2.2.length : Nat) : Int)).toNat).2.2.2.2.2.1).2.1) (x7 := ((settleD d0 (min d1 ((d0.2.2.2.2.2.2.length : Nat) : Int)).toNat).2.2.2.2.2.1).2.2.1) (x8 := ((settleD d0 (min d1 ((d0.2.2.2.2.2.2.length : Nat) : Int)).toNat).2.2.2.2.2.1).2.2.2) (x9 := (settleD d0 (min d1 ((d0.2.2.2.2.2.2.length : Nat) : Int)).toNat).2.2.2.2.2.2) ho36
              simp only [inK] at q38_3
              simp only [inK] at q38_4
              have q38_r5 := Rd.room (q38_5.rd (mle_refl _))
              have q38_r6 := Rd.room (q38_6.rd (mle_refl _))
              have q38_r7 := Rd.room (q38_7.rd (mle_refl _))
              have q38_r8 := Rd.room (q38_8.rd (mle_refl _))
              have q38_r9 := Rd.room (q38_9.rd (mle_refl _))
              refine VO.inv _ (fun _ h => h.parts (i := 136) rfl q38_S [144, 139, 140, 141, 142, 143]) ?_
              refine VO.y rfl (.ld1 144 rfl tk70 rfl (cellsAt_one rfl rfl)) ?_
              obtain ⟨x45, hx45⟩ : ∃ z_, ((settleD d0 (min d1 ((d0.2.2.2.2.2.2.length : Nat) : Int)).toNat).2.2.2.2.2.2)[0]? = some z_ := ⟨_, List.getElem?_eq_getElem (by first | omega | (simp only [List.length_append, List.length_nil, List.length_cons, List.length_take, List.length_drop] at *; omega) | (have h_ := start_good (by assumption) ‹_[0]? = some _›; simp only [inF] at h_; omega))⟩
              obtain ⟨gg45, oo45, ec45, ea45, hce45, hre45⟩ := (Ow.rd q38_9 (mle_refl _)).elem hx45
              cases ea45
              obtain ⟨q45_A2, q45_c2, rfl, q45_0, q45_1, q45_2, q45_3⟩ := open_diskstep (x0 := x45.1) (x1 := x45.2.1) (x2 := x45.2.2.1) (x3 := x45.2.2.2) hre45
              simp only [inK] at q45_0
              simp only [inK] at q45_1
              have q45_r2 := Rd.room q45_2
              simp only [inK] at q45_3
              refine VO.y rfl (.ixI 0 rfl rfl tsl70 rfl (by first | omega | (simp only [List.length_append, List.length_nil, List.length_cons, List.length_take, List.length_drop] at *; omega) | (have h_ := start_good (by assumption) ‹_[0]? = some _›; simp only [inF] at h_; omega))) ?_
              refine VO.y rfl (.ldA 143 rfl tk101 rfl hce45) ?_
              refine VO.alloc 147 rfl tz101 (fun g46 => ?_)
              refine VO.store (k := 4) (c' := [Value.int .i64 (x45.1), Value.int .i64 (x45.2.1), Value.slice q45_A2 (x45.2.2.1.length) (q45_c2), Value.int .i64 (x45.2.2.2)]) 147 rfl rfl (.inl tk101) rfl rfl rfl rfl rfl ?_
              refine VO.keep [147, 144, 139, 140, 141, 142, 143, 0] [(147, mone g46 (.cells [Value.int .i64 (x45.1), Value.int .i64 (x45.2.1), Value.slice q45_A2 (x45.2.2.1.length) (q45_c2), Value.int .i64 (x45.2.2.2)].toArray 101 (0, 0))), (144, mone g0 (.cells [Value.bool ((settleD d0 (min d1 ((d0.2.2.2.2.2.2.length : Nat) : Int)).toNat).1), Value.bool ((settleD d0 (min d1 ((d0.2.2.2.2.2.2.length : Nat) : Int)).toNat).2.1), Value.bool ((settleD d0 (min d1 ((d0.2.2.2.2.2.2.length : Nat) : Int)).toNat).2.2.1), Value.int .i64 ((settleD d0 (min d1 ((d0.2.2.2.2.2.2.length : Nat) : Int)).toNat).2.2.2.1), Value.int .i64 ((settleD d0 (min d1 ((d0.2.2.2.2.2.2.length : Nat) : Int)).toNat).2.2.2.2.1), Value.slice q38_A5 ((((settleD d0 (min d1 ((d0.2.2.2.2.2.2.length : Nat) : Int)).toNat).2.2.2.2.2.1).1).length) (q38_c5), Value.slice q38_A6 ((((settleD d0 (min d1 ((d0.2.2.2.2.2.2.length : Nat) : Int)).toNat).2.2.2.2.2.1).2.1).length) (q38_c6), Value.slice q38_A7 ((((settleD d0 (min d1 ((d0.2.2.2.2.2.2.length : Nat) : Int)).toNat).2.2.2.2.2.1).2.2.1).length) (q38_c7), Value.slice q38_A8 ((((settleD d0 (min d1 ((d0.2.2.2.2.2.2.length : Nat) : Int)).toNat).2.2.2.2.2.1).2.2.2).length) (q38_c8), Value.slice (some ⟨gg45, oo45, none⟩) (((settleD d0 (min d1 ((d0.2.2.2.2.2.2.length : Nat) : Int)).toNat).2.2.2.2.2.2).length) (q38_c9)].toArray q38_E (0, 0))), (139, q38_n5), (140, q38_n6), (141, q38_n7), (142, q38_n8), (143, q38_n9), (0, mout (wm W) (m0))] (by kernel_rfl) ?_
              refine VO.k8 0 1 2 6 7 8 11 49 ?_
              refine VC.rs ?_
              have hxe : x45 = x35 := Option.some.inj (hx45.symm.trans hx35)
              subst hxe
              refine VO.y rfl (.fa rfl tst101 rfl) ?_
              refine VO.y rfl (.ld1 147 rfl tk25 rfl (cellsAt_one rfl rfl)) ?_
              refine VO.mv ?_
              refine VO.y rfl (.fa rfl tst101 rfl) ?_
              refine VO.y rfl (.ld1 147 rfl tk25 rfl (cellsAt_one rfl rfl)) ?_
              refine VO.y rfl (.lenS rfl tsl25) ?_
              refine VO.y rfl (.sub rfl rfl rfl ⟨by first | omega | (simp only [List.length_append, List.length_nil, List.length_cons, List.length_take, List.length_drop] at *; omega) | (have h_ := start_good (by assumption) ‹_[0]? = some _›; simp only [inF] at h_; omega), by first | omega | (simp only [List.length_append, List.length_nil, List.length_cons, List.length_take, List.length_drop] at *; omega) | (have h_ := start_good (by assumption) ‹_[0]? = some _›; simp only [inF] at h_; omega)⟩) ?_
              refine VO.y rfl (.minM rfl rfl) ?_
              have hs48 := q45_2.pre (j := ((min d2 (((x45.2.2.1.length : Nat) : Int) - 1)).toNat)) (by first | omega | (simp only [List.length_append, List.length_nil, List.length_cons, List.length_take, List.length_drop] at *; omega) | (have h_ := start_good (by assumption) ‹_[0]? = some _›; simp only [inF] at h_; omega))
              refine VO.y rfl (.slHI ((min d2 (((x45.2.2.1.length : Nat) : Int) - 1)).toNat) rfl rfl tsl25 (by first | omega | (simp only [List.length_append, List.length_nil, List.length_cons, List.length_take, List.length_drop] at *; omega) | (have h_ := start_good (by assumption) ‹_[0]? = some _›; simp only [inF] at h_; omega)) (by first | omega | (simp only [List.length_append, List.length_nil, List.length_cons, List.length_take, List.length_drop] at *; omega) | (have h_ := start_good (by assumption) ‹_[0]? = some _›; simp only [inF] at h_; omega))) ?_
              refine VO.y rfl (.fa rfl tst101 rfl) ?_
              refine VO.store (k := 1) (c' := [Value.int .i64 (x45.1), Value.int .i64 (x45.2.1), Value.slice q45_A2 ((min d2 (((x45.2.2.1.length : Nat) : Int) - 1)).toNat) (q45_c2), Value.int .i64 (x45.2.2.2)]) 147 rfl rfl (.inr ⟨tk25, rfl⟩) rfl rfl rfl rfl rfl ?_
              refine VO.k8 0 1 2 6 7 8 11 49 ?_
              refine VC.regD _ 14 [(0, true), (1, true), (2, true), (3, true), (4, true), (5, true), (6, true), (7, true), (8, true), (9, true), (10, true), (12, true), (13, true), (11, false)] follows (by kernel_rfl) (fun _ h => h.sub [147, 144, 143, 0]) ?_
              refine VD.y rfl rfl (.inl rfl) (.mv rfl) ?_
              refine VD.y rfl rfl (.inl rfl) (.fa rfl tst101 rfl) ?_
              refine VD.y rfl rfl (.inl rfl) (.ld1 147 rfl tk3 rfl (cellsAt_one rfl rfl)) ?_
              refine VD.y rfl rfl (.inl rfl) (.mv rfl) ?_
              refine VD.y rfl rfl (.inl rfl) (.fa rfl tst101 rfl) ?_
              refine VD.y rfl rfl (.inl rfl) (.ld1 147 rfl tk3 rfl (cellsAt_one rfl rfl)) ?_
              refine VD.y rfl rfl (.inl rfl) (.nilp rfl) ?_
              refine VD.y rfl rfl (.inl rfl) (.fa rfl tst72 rfl) ?_
              rcases (show x45.2.1 = (0 : Int) ∨ x45.2.1 = (1 : Int) ∨ x45.2.1 = (2 : Int) ∨ x45.2.1 = (3 : Int) from by first | omega | (simp only [List.length_append, List.length_nil, List.length_cons, List.length_take, List.length_drop] at *; omega) | (have h_ := start_good (by assumption) ‹_[0]? = some _›; simp only [inF] at h_; omega)) with hi49 | hi49 | hi49 | hi49
              · -- FFFFTT0
                refine VD.y rfl rfl (.inl rfl) (.ixa (i := 0) (o := 5) rfl rfl tar69 hi49 rfl rfl) ?_
                refine VD.y rfl rfl (.inl rfl) (.ld1 144 rfl tk25 rfl (cellsAt_one rfl rfl)) ?_
                refine VD.y rfl rfl (.inl rfl) (.ldA 147 rfl tk101 rfl (cellsAt_one rfl rfl)) ?_
                refine VD.y rfl rfl (.inl rfl) (.nilp rfl) ?_
                refine VD.y rfl rfl (.inl rfl) (.fa rfl tst72 rfl) ?_
                refine VD.call 139 rfl rfl (.inl rfl) fnOk84 rfl rfl (fun _ _ h => h.sub [147, 144, 143, 0]) (fun W hW => dDone_ok W (hW.at (i := 139) rfl) (OwnL.ow (Ow.ownl q38_5 rfl mnil) rfl) (mk_diskstep (m := mout (wm W) (q38_n5)) x45.1 x45.2.1 ((x45.2.2.1).take ((min d2 (((x45.2.2.1.length : Nat) : Int) - 1)).toNat)) x45.2.2.2 (by simp only [inK]; (first | omega | (simp only [List.length_append, List.length_nil, List.length_cons, List.length_take, List.length_drop] at *; omega) | (have h_ := start_good (by assumption) ‹_[0]? = some _›; simp only [inF] at h_; omega))) (by simp only [inK]; (first | omega | (simp only [List.length_append, List.length_nil, List.length_cons, List.length_take, List.length_drop] at *; omega) | (have h_ := start_good (by assumption) ‹_[0]? = some _›; simp only [inF] at h_; omega))) (Rd.mono hs48 (hW.out (i := 139) (j := 143) rfl rfl)) (by simp only [inK]; (first | omega | (simp only [List.length_append, List.length_nil, List.length_cons, List.length_take, List.length_drop] at *; omega) | (have h_ := start_good (by assumption) ‹_[0]? = some _›; simp only [inF] at h_; omega)))) (by intro h_; omega) (by (have h_ := (start_good (by assumption) ‹_[0]? = some _›).2.2; first | (rw [getF0 ‹_ = (0 : Int)›] at h_; simp only [List.length_take]; omega) | (rw [getF1 ‹_ = (1 : Int)›] at h_; simp only [List.length_take]; omega) | (rw [getF2 ‹_ = (2 : Int)›] at h_; simp only [List.length_take]; omega) | (rw [getF3 ‹_ = (3 : Int)›] at h_; simp only [List.length_take]; omega)))) (fun v50 m50 hv50 => ?_)
                try dsimp only at hv50
                obtain ⟨s50_0, rfl, f50_0⟩ := hv50
                obtain ⟨A50_0, c50_0, eq50_0, l50_0, k50_0⟩ := f50_0.slice
                subst eq50_0
                simp only [maxLen] at k50_0
                refine VD.nil rfl ?_ rfl
                refine VO.y rfl (.ixa (i := 0) (o := 5) rfl rfl tar69 hi49 rfl rfl) ?_
                refine VO.store (k := 1) (c' := [Value.bool ((settleD d0 (min d1 ((d0.2.2.2.2.2.2.length : Nat) : Int)).toNat).1), Value.bool ((settleD d0 (min d1 ((d0.2.2.2.2.2.2.length : Nat) : Int)).toNat).2.1), Value.bool ((settleD d0 (min d1 ((d0.2.2.2.2.2.2.length : Nat) : Int)).toNat).2.2.1), Value.int .i64 ((settleD d0 (min d1 ((d0.2.2.2.2.2.2.length : Nat) : Int)).toNat).2.2.2.1), Value.int .i64 ((settleD d0 (min d1 ((d0.2.2.2.2.2.2.length : Nat) : Int)).toNat).2.2.2.2.1), Value.slice A50_0 ((doneB (((settleD d0 (min d1 ((d0.2.2.2.2.2.2.length : Nat) : Int)).toNat).2.2.2.2.2.1).1) (x45.1, x45.2.1, (x45.2.2.1).take ((min d2 (((x45.2.2.1.length : Nat) : Int) - 1)).toNat), x45.2.2.2)).length) (c50_0), Value.slice q38_A6 ((((settleD d0 (min d1 ((d0.2.2.2.2.2.2.length : Nat) : Int)).toNat).2.2.2.2.2.1).2.1).length) (q38_c6), Value.slice q38_A7 ((((settleD d0 (min d1 ((d0.2.2.2.2.2.2.length : Nat) : Int)).toNat).2.2.2.2.2.1).2.2.1).length) (q38_c7), Value.slice q38_A8 ((((settleD d0 (min d1 ((d0.2.2.2.2.2.2.length : Nat) : Int)).toNat).2.2.2.2.2.1).2.2.2).length) (q38_c8), Value.slice (some ⟨gg45, oo45, none⟩) (((settleD d0 (min d1 ((d0.2.2.2.2.2.2.length : Nat) : Int)).toNat).2.2.2.2.2.2).length) (q38_c9)]) 144 rfl rfl (.inr ⟨tk25, rfl⟩) rfl rfl rfl rfl rfl ?_
                refine VO.k8 0 1 2 6 7 8 11 49 ?_
                refine outN ?_
                refine VC.rs ?_
                refine VO.mv ?_
                refine VO.mv ?_
                refine VO.mv ?_
                refine VO.mv ?_
                refine VO.y rfl (.nilp rfl) ?_
                refine VO.y rfl (.fa rfl tst72 rfl) ?_
                refine VO.store (k := 1) (c' := [Value.bool ((settleD d0 (min d1 ((d0.2.2.2.2.2.2.length : Nat) : Int)).toNat).1), Value.bool ((settleD d0 (min d1 ((d0.2.2.2.2.2.2.length : Nat) : Int)).toNat).2.1), Value.bool ((settleD d0 (min d1 ((d0.2.2.2.2.2.2.length : Nat) : Int)).toNat).2.2.1), Value.int .i64 ((settleD d0 (min d1 ((d0.2.2.2.2.2.2.length : Nat) : Int)).toNat).2.2.2.1), Value.int .i64 ((settleD d0 (min d1 ((d0.2.2.2.2.2.2.length : Nat) : Int)).toNat).2.2.2.2.1), Value.slice A50_0 ((doneB (((settleD d0 (min d1 ((d0.2.2.2.2.2.2.length : Nat) : Int)).toNat).2.2.2.2.2.1).1) (x45.1, x45.2.1, (x45.2.2.1).take ((min d2 (((x45.2.2.1.length : Nat) : Int) - 1)).toNat), x45.2.2.2)).length) (c50_0), Value.slice q38_A6 ((((settleD d0 (min d1 ((d0.2.2.2.2.2.2.length : Nat) : Int)).toNat).2.2.2.2.2.1).2.1).length) (q38_c6), Value.slice q38_A7 ((((settleD d0 (min d1 ((d0.2.2.2.2.2.2.length : Nat) : Int)).toNat).2.2.2.2.2.1).2.2.1).length) (q38_c7), Value.slice q38_A8 ((((settleD d0 (min d1 ((d0.2.2.2.2.2.2.length : Nat) : Int)).toNat).2.2.2.2.2.1).2.2.2).length) (q38_c8), Value.slice none (0) (0)]) 144 rfl rfl (.inr ⟨tk70, rfl⟩) rfl rfl rfl rfl rfl ?_
                refine VO.y rfl (.nilp rfl) ?_
                refine VO.y rfl (.fa rfl tst72 rfl) ?_
                refine VO.store (k := 1) (c' := [Value.bool ((settleD d0 (min d1 ((d0.2.2.2.2.2.2.length : Nat) : Int)).toNat).1), Value.bool false, Value.bool ((settleD d0 (min d1 ((d0.2.2.2.2.2.2.length : Nat) : Int)).toNat).2.2.1), Value.int .i64 ((settleD d0 (min d1 ((d0.2.2.2.2.2.2.length : Nat) : Int)).toNat).2.2.2.1), Value.int .i64 ((settleD d0 (min d1 ((d0.2.2.2.2.2.2.length : Nat) : Int)).toNat).2.2.2.2.1), Value.slice A50_0 ((doneB (((settleD d0 (min d1 ((d0.2.2.2.2.2.2.length : Nat) : Int)).toNat).2.2.2.2.2.1).1) (x45.1, x45.2.1, (x45.2.2.1).take ((min d2 (((x45.2.2.1.length : Nat) : Int) - 1)).toNat), x45.2.2.2)).length) (c50_0), Value.slice q38_A6 ((((settleD d0 (min d1 ((d0.2.2.2.2.2.2.length : Nat) : Int)).toNat).2.2.2.2.2.1).2.1).length) (q38_c6), Value.slice q38_A7 ((((settleD d0 (min d1 ((d0.2.2.2.2.2.2.length : Nat) : Int)).toNat).2.2.2.2.2.1).2.2.1).length) (q38_c7), Value.slice q38_A8 ((((settleD d0 (min d1 ((d0.2.2.2.2.2.2.length : Nat) : Int)).toNat).2.2.2.2.2.1).2.2.2).length) (q38_c8), Value.slice none (0) (0)]) 144 rfl rfl (.inr ⟨tk4, rfl⟩) rfl rfl rfl rfl rfl ?_
                refine VO.y rfl (.nilp rfl) ?_
                refine VO.y rfl (.fa rfl tst72 rfl) ?_
                refine VO.store (k := 1) (c' := [Value.bool ((settleD d0 (min d1 ((d0.2.2.2.2.2.2.length : Nat) : Int)).toNat).1), Value.bool false, Value.bool false, Value.int .i64 ((settleD d0 (min d1 ((d0.2.2.2.2.2.2.length : Nat) : Int)).toNat).2.2.2.1), Value.int .i64 ((settleD d0 (min d1 ((d0.2.2.2.2.2.2.length : Nat) : Int)).toNat).2.2.2.2.1), Value.slice A50_0 ((doneB (((settleD d0 (min d1 ((d0.2.2.2.2.2.2.length : Nat) : Int)).toNat).2.2.2.2.2.1).1) (x45.1, x45.2.1, (x45.2.2.1).take ((min d2 (((x45.2.2.1.length : Nat) : Int) - 1)).toNat), x45.2.2.2)).length) (c50_0), Value.slice q38_A6 ((((settleD d0 (min d1 ((d0.2.2.2.2.2.2.length : Nat) : Int)).toNat).2.2.2.2.2.1).2.1).length) (q38_c6), Value.slice q38_A7 ((((settleD d0 (min d1 ((d0.2.2.2.2.2.2.length : Nat) : Int)).toNat).2.2.2.2.2.1).2.2.1).length) (q38_c7), Value.slice q38_A8 ((((settleD d0 (min d1 ((d0.2.2.2.2.2.2.length : Nat) : Int)).toNat).2.2.2.2.2.1).2.2.2).length) (q38_c8), Value.slice none (0) (0)]) 144 rfl rfl (.inr ⟨tk4, rfl⟩) rfl rfl rfl rfl rfl ?_
                refine VO.y rfl (.nilp rfl) ?_
                refine VO.y rfl (.fa rfl tst72 rfl) ?_
                refine VO.store (k := 1) (c' := [Value.bool ((settleD d0 (min d1 ((d0.2.2.2.2.2.2.length : Nat) : Int)).toNat).1), Value.bool false, Value.bool false, Value.int .i64 (0), Value.int .i64 ((settleD d0 (min d1 ((d0.2.2.2.2.2.2.length : Nat) : Int)).toNat).2.2.2.2.1), Value.slice A50_0 ((doneB (((settleD d0 (min d1 ((d0.2.2.2.2.2.2.length : Nat) : Int)).toNat).2.2.2.2.2.1).1) (x45.1, x45.2.1, (x45.2.2.1).take ((min d2 (((x45.2.2.1.length : Nat) : Int) - 1)).toNat), x45.2.2.2)).length) (c50_0), Value.slice q38_A6 ((((settleD d0 (min d1 ((d0.2.2.2.2.2.2.length : Nat) : Int)).toNat).2.2.2.2.2.1).2.1).length) (q38_c6), Value.slice q38_A7 ((((settleD d0 (min d1 ((d0.2.2.2.2.2.2.length : Nat) : Int)).toNat).2.2.2.2.2.1).2.2.1).length) (q38_c7), Value.slice q38_A8 ((((settleD d0 (min d1 ((d0.2.2.2.2.2.2.length : Nat) : Int)).toNat).2.2.2.2.2.1).2.2.2).length) (q38_c8), Value.slice none (0) (0)]) 144 rfl rfl (.inr ⟨tk3, rfl⟩) rfl rfl rfl rfl rfl ?_
                refine VO.gather (l := [mone g0 (.cells [Value.bool ((settleD d0 (min d1 ((d0.2.2.2.2.2.2.length : Nat) : Int)).toNat).1), Value.bool false, Value.bool false, Value.int .i64 (0), Value.int .i64 ((settleD d0 (min d1 ((d0.2.2.2.2.2.2.length : Nat) : Int)).toNat).2.2.2.2.1), Value.slice A50_0 ((doneB (((settleD d0 (min d1 ((d0.2.2.2.2.2.2.length : Nat) : Int)).toNat).2.2.2.2.2.1).1) (x45.1, x45.2.1, (x45.2.2.1).take ((min d2 (((x45.2.2.1.length : Nat) : Int) - 1)).toNat), x45.2.2.2)).length) (c50_0), Value.slice q38_A6 ((((settleD d0 (min d1 ((d0.2.2.2.2.2.2.length : Nat) : Int)).toNat).2.2.2.2.2.1).2.1).length) (q38_c6), Value.slice q38_A7 ((((settleD d0 (min d1 ((d0.2.2.2.2.2.2.length : Nat) : Int)).toNat).2.2.2.2.2.1).2.2.1).length) (q38_c7), Value.slice q38_A8 ((((settleD d0 (min d1 ((d0.2.2.2.2.2.2.length : Nat) : Int)).toNat).2.2.2.2.2.1).2.2.2).length) (q38_c8), Value.slice none (0) (0)].toArray q38_E (0, 0)), m50, q38_n6, q38_n7, q38_n8]) 151 [144, 139, 140, 141, 142] rfl (fun hg51 => ?_)
                have ho51 : Ow (.ptr TdiskDisk) (muns [mone g0 (.cells [Value.bool ((settleD d0 (min d1 ((d0.2.2.2.2.2.2.length : Nat) : Int)).toNat).1), Value.bool false, Value.bool false, Value.int .i64 (0), Value.int .i64 ((settleD d0 (min d1 ((d0.2.2.2.2.2.2.length : Nat) : Int)).toNat).2.2.2.2.1), Value.slice A50_0 ((doneB (((settleD d0 (min d1 ((d0.2.2.2.2.2.2.length : Nat) : Int)).toNat).2.2.2.2.2.1).1) (x45.1, x45.2.1, (x45.2.2.1).take ((min d2 (((x45.2.2.1.length : Nat) : Int) - 1)).toNat), x45.2.2.2)).length) (c50_0), Value.slice q38_A6 ((((settleD d0 (min d1 ((d0.2.2.2.2.2.2.length : Nat) : Int)).toNat).2.2.2.2.2.1).2.1).length) (q38_c6), Value.slice q38_A7 ((((settleD d0 (min d1 ((d0.2.2.2.2.2.2.length : Nat) : Int)).toNat).2.2.2.2.2.1).2.2.1).length) (q38_c7), Value.slice q38_A8 ((((settleD d0 (min d1 ((d0.2.2.2.2.2.2.length : Nat) : Int)).toNat).2.2.2.2.2.1).2.2.2).length) (q38_c8), Value.slice none (0) (0)].toArray q38_E (0, 0)), m50, q38_n6, q38_n7, q38_n8]) [.pointer (some ⟨g0, 0, none⟩)] (g0, ((settleD d0 (min d1 ((d0.2.2.2.2.2.2.length : Nat) : Int)).toNat).1, false, false, 0, (settleD d0 (min d1 ((d0.2.2.2.2.2.2.length : Nat) : Int)).toNat).2.2.2.2.1, (doneB (((settleD d0 (min d1 ((d0.2.2.2.2.2.2.length : Nat) : Int)).toNat).2.2.2.2.2.1).1) (x45.1, x45.2.1, (x45.2.2.1).take ((min d2 (((x45.2.2.1.length : Nat) : Int) - 1)).toNat), x45.2.2.2), ((settleD d0 (min d1 ((d0.2.2.2.2.2.2.length : Nat) : Int)).toNat).2.2.2.2.2.1).2), [])) := (mkP_diskDisk ((settleD d0 (min d1 ((d0.2.2.2.2.2.2.length : Nat) : Int)).toNat).1) false false 0 ((settleD d0 (min d1 ((d0.2.2.2.2.2.2.length : Nat) : Int)).toNat).2.2.2.2.1) (doneB (((settleD d0 (min d1 ((d0.2.2.2.2.2.2.length : Nat) : Int)).toNat).2.2.2.2.2.1).1) (x45.1, x45.2.1, (x45.2.2.1).take ((min d2 (((x45.2.2.1.length : Nat) : Int) - 1)).toNat), x45.2.2.2)) (((settleD d0 (min d1 ((d0.2.2.2.2.2.2.length : Nat) : Int)).toNat).2.2.2.2.2.1).2.1) (((settleD d0 (min d1 ((d0.2.2.2.2.2.2.length : Nat) : Int)).toNat).2.2.2.2.2.1).2.2.1) (((settleD d0 (min d1 ((d0.2.2.2.2.2.2.length : Nat) : Int)).toNat).2.2.2.2.2.1).2.2.2) [] (Seps.nilAt 5 hg51) (by simp only [inK]; (first | omega | (simp only [List.length_append, List.length_nil, List.length_cons, List.length_take, List.length_drop] at *; omega) | (have h_ := start_good (by assumption) ‹_[0]? = some _›; simp only [inF] at h_; omega))) (by simp only [inK]; (first | omega | (simp only [List.length_append, List.length_nil, List.length_cons, List.length_take, List.length_drop] at *; omega) | (have h_ := start_good (by assumption) ‹_[0]? = some _›; simp only [inF] at h_; omega))) (OwnL.ow (Ow.ownl f50_0 rfl mnil) rfl) (OwnL.ow (Ow.ownl q38_6 rfl mnil) rfl) (OwnL.ow (Ow.ownl q38_7 rfl mnil) rfl) (OwnL.ow (Ow.ownl q38_8 rfl mnil) rfl) (Ow.nil _ _))
                refine VO.keep [151, 147, 143, 0] [(151, muns [mone g0 (.cells [Value.bool ((settleD d0 (min d1 ((d0.2.2.2.2.2.2.length : Nat) : Int)).toNat).1), Value.bool false, Value.bool false, Value.int .i64 (0), Value.int .i64 ((settleD d0 (min d1 ((d0.2.2.2.2.2.2.length : Nat) : Int)).toNat).2.2.2.2.1), Value.slice A50_0 ((doneB (((settleD d0 (min d1 ((d0.2.2.2.2.2.2.length : Nat) : Int)).toNat).2.2.2.2.2.1).1) (x45.1, x45.2.1, (x45.2.2.1).take ((min d2 (((x45.2.2.1.length : Nat) : Int) - 1)).toNat), x45.2.2.2)).length) (c50_0), Value.slice q38_A6 ((((settleD d0 (min d1 ((d0.2.2.2.2.2.2.length : Nat) : Int)).toNat).2.2.2.2.2.1).2.1).length) (q38_c6), Value.slice q38_A7 ((((settleD d0 (min d1 ((d0.2.2.2.2.2.2.length : Nat) : Int)).toNat).2.2.2.2.2.1).2.2.1).length) (q38_c7), Value.slice q38_A8 ((((settleD d0 (min d1 ((d0.2.2.2.2.2.2.length : Nat) : Int)).toNat).2.2.2.2.2.1).2.2.2).length) (q38_c8), Value.slice none (0) (0)].toArray q38_E (0, 0)), m50, q38_n6, q38_n7, q38_n8]), (147, mone g46 (.cells [Value.int .i64 (x45.1), Value.int .i64 (x45.2.1), Value.slice q45_A2 ((min d2 (((x45.2.2.1.length : Nat) : Int) - 1)).toNat) (q45_c2), Value.int .i64 (x45.2.2.2)].toArray 101 (0, 0))), (143, q38_n9), (0, mout (wm W) (m0))] (by kernel_rfl) ?_
                refine VO.k8 0 1 2 6 7 8 11 49 ?_
                refine VC.rs ?_
                refine VO.as ?_
                refine VO.k8 0 1 2 6 7 8 11 49 ?_
                refine VC.ret ?_
                refine ⟨_, _, res_run (rs := [.tmp 6]) rfl (.tmp rfl .nil), fun W_ hI => out_of (l := [muns [mone g0 (.cells [Value.bool ((settleD d0 (min d1 ((d0.2.2.2.2.2.2.length : Nat) : Int)).toNat).1), Value.bool false, Value.bool false, Value.int .i64 (0), Value.int .i64 ((settleD d0 (min d1 ((d0.2.2.2.2.2.2.length : Nat) : Int)).toNat).2.2.2.2.1), Value.slice A50_0 ((doneB (((settleD d0 (min d1 ((d0.2.2.2.2.2.2.length : Nat) : Int)).toNat).2.2.2.2.2.1).1) (x45.1, x45.2.1, (x45.2.2.1).take ((min d2 (((x45.2.2.1.length : Nat) : Int) - 1)).toNat), x45.2.2.2)).length) (c50_0), Value.slice q38_A6 ((((settleD d0 (min d1 ((d0.2.2.2.2.2.2.length : Nat) : Int)).toNat).2.2.2.2.2.1).2.1).length) (q38_c6), Value.slice q38_A7 ((((settleD d0 (min d1 ((d0.2.2.2.2.2.2.length : Nat) : Int)).toNat).2.2.2.2.2.1).2.2.1).length) (q38_c7), Value.slice q38_A8 ((((settleD d0 (min d1 ((d0.2.2.2.2.2.2.length : Nat) : Int)).toNat).2.2.2.2.2.1).2.2.2).length) (q38_c8), Value.slice none (0) (0)].toArray q38_E (0, 0)), m50, q38_n6, q38_n7, q38_n8]]) hI [151] rfl rfl (mle_refl _) (fun hS_ => ?_)⟩
                dsimp only [packV]
                have hm0_ : ((dStart d0 d1 d2).1 : DdiskDisk) = ((settleD d0 (min d1 ((d0.2.2.2.2.2.2.length : Nat) : Int)).toNat).1, false, false, 0, (settleD d0 (min d1 ((d0.2.2.2.2.2.2.length : Nat) : Int)).toNat).2.2.2.2.1, (doneB (((settleD d0 (min d1 ((d0.2.2.2.2.2.2.length : Nat) : Int)).toNat).2.2.2.2.2.1).1) (x45.1, x45.2.1, (x45.2.2.1).take ((min d2 (((x45.2.2.1.length : Nat) : Int) - 1)).toNat), x45.2.2.2), ((settleD d0 (min d1 ((d0.2.2.2.2.2.2.length : Nat) : Int)).toNat).2.2.2.2.2.1).2), []) := by first | rfl | (first | (rw [start_bad1 (by assumption)] <;> rfl) | (rw [start_bad2 (by assumption) (.inl (by simpa using ‹_›))] <;> rfl) | (rw [start_bad2 (by assumption) (.inr (.inl (by assumption)))] <;> rfl) | (rw [start_bad2 (by assumption) (.inr (.inr (by assumption)))] <;> rfl) | (rw [start_go (by assumption) (by simpa using ‹_›) (by assumption) (by assumption), torn_nil (by omega)] <;> rfl) | (rw [start_go (by assumption) (by simpa using ‹_›) (by assumption) (by assumption), torn_no (by assumption) (by assumption)] <;> rfl) | (rw [start_go (by assumption) (by simpa using ‹_›) (by assumption) (by assumption), torn_yes (by assumption) (by assumption), stepQ, setQ0 ‹_ = (0 : Int)›, getF0 ‹_ = (0 : Int)›] <;> rfl) | (rw [start_go (by assumption) (by simpa using ‹_›) (by assumption) (by assumption), torn_yes (by assumption) (by assumption), stepQ, setQ1 ‹_ = (1 : Int)›, getF1 ‹_ = (1 : Int)›] <;> rfl) | (rw [start_go (by assumption) (by simpa using ‹_›) (by assumption) (by assumption), torn_yes (by assumption) (by assumption), stepQ, setQ2 ‹_ = (2 : Int)›, getF2 ‹_ = (2 : Int)›] <;> rfl) | (rw [start_go (by assumption) (by simpa using ‹_›) (by assumption) (by assumption), torn_yes (by assumption) (by assumption), stepQ, setQ3 ‹_ = (3 : Int)›, getF3 ‹_ = (3 : Int)›] <;> rfl))
                refine ⟨?_, ?_⟩
                rotate_left
                · rw [hm0_]; exact (Ow.up ho51 (hS_.1 _ (.head _)))
                all_goals (first | rfl | (first | (rw [start_bad1 (by assumption)] <;> rfl) | (rw [start_bad2 (by assumption) (.inl (by simpa using ‹_›))] <;> rfl) | (rw [start_bad2 (by assumption) (.inr (.inl (by assumption)))] <;> rfl) | (rw [start_bad2 (by assumption) (.inr (.inr (by assumption)))] <;> rfl) | (rw [start_go (by assumption) (by simpa using ‹_›) (by assumption) (by assumption), torn_nil (by omega)] <;> rfl) | (rw [start_go (by assumption) (by simpa using ‹_›) (by assumption) (by assumption), torn_no (by assumption) (by assumption)] <;> rfl) | (rw [start_go (by assumption) (by simpa using ‹_›) (by assumption) (by assumption), torn_yes (by assumption) (by assumption), stepQ, setQ0 ‹_ = (0 : Int)›, getF0 ‹_ = (0 : Int)›] <;> rfl) | (rw [start_go (by assumption) (by simpa using ‹_›) (by assumption) (by assumption), torn_yes (by assumption) (by assumption), stepQ, setQ1 ‹_ = (1 : Int)›, getF1 ‹_ = (1 : Int)›] <;> rfl) | (rw [start_go (by assumption) (by simpa using ‹_›) (by assumption) (by assumption), torn_yes (by assumption) (by assumption), stepQ, setQ2 ‹_ = (2 : Int)›, getF2 ‹_ = (2 : Int)›] <;> rfl) | (rw [start_go (by assumption) (by simpa using ‹_›) (by assumption) (by assumption), torn_yes (by assumption) (by assumption), stepQ, setQ3 ‹_ = (3 : Int)›, getF3 ‹_ = (3 : Int)›] <;> rfl)))
              · -- FFFFTT1
                refine VD.y rfl rfl (.inl rfl) (.ixa (i := 1) (o := 6) rfl rfl tar69 hi49 rfl rfl) ?_
                refine VD.y rfl rfl (.inl rfl) (.ld1 144 rfl tk25 rfl (cellsAt_one rfl rfl)) ?_
                refine VD.y rfl rfl (.inl rfl) (.ldA 147 rfl tk101 rfl (cellsAt_one rfl rfl)) ?_
                refine VD.y rfl rfl (.inl rfl) (.nilp rfl) ?_
                refine VD.y rfl rfl (.inl rfl) (.fa rfl tst72 rfl) ?_
                refine VD.call 140 rfl rfl (.inl rfl) fnOk84 rfl rfl (fun _ _ h => h.sub [147, 144, 143, 0]) (fun W hW => dDone_ok W (hW.at (i := 140) rfl) (OwnL.ow (Ow.ownl q38_6 rfl mnil) rfl) (mk_diskstep (m := mout (wm W) (q38_n6)) x45.1 x45.2.1 ((x45.2.2.1).take ((min d2 (((x45.2.2.1.length : Nat) : Int) - 1)).toNat)) x45.2.2.2 (by simp only [inK]; (first | omega | (simp only [List.length_append, List.length_nil, List.length_cons, List.length_take, List.length_drop] at *; omega) | (have h_ := start_good (by assumption) ‹_[0]? = some _›; simp only [inF] at h_; omega))) (by simp only [inK]; (first | omega | (simp only [List.length_append, List.length_nil, List.length_cons, List.length_take, List.length_drop] at *; omega) | (have h_ := start_good (by assumption) ‹_[0]? = some _›; simp only [inF] at h_; omega))) (Rd.mono hs48 (hW.out (i := 140) (j := 143) rfl rfl)) (by simp only [inK]; (first | omega | (simp only [List.length_append, List.length_nil, List.length_cons, List.length_take, List.length_drop] at *; omega) | (have h_ := start_good (by assumption) ‹_[0]? = some _›; simp only [inF] at h_; omega)))) (by intro h_; omega) (by (have h_ := (start_good (by assumption) ‹_[0]? = some _›).2.2; first | (rw [getF0 ‹_ = (0 : Int)›] at h_; simp only [List.length_take]; omega) | (rw [getF1 ‹_ = (1 : Int)›] at h_; simp only [List.length_take]; omega) | (rw [getF2 ‹_ = (2 : Int)›] at h_; simp only [List.length_take]; omega) | (rw [getF3 ‹_ = (3 : Int)›] at h_; simp only [List.length_take]; omega)))) (fun v52 m52 hv52 => ?_)
                try dsimp only at hv52
                obtain ⟨s52_0, rfl, f52_0⟩ := hv52
                obtain ⟨A52_0, c52_0, eq52_0, l52_0, k52_0⟩ := f52_0.slice
                subst eq52_0
                simp only [maxLen] at k52_0
                refine VD.nil rfl ?_ rfl
                refine VO.y rfl (.ixa (i := 1) (o := 6) rfl rfl tar69 hi49 rfl rfl) ?_
                refine VO.store (k := 1) (c' := [Value.bool ((settleD d0 (min d1 ((d0.2.2.2.2.2.2.length : Nat) : Int)).toNat).1), Value.bool ((settleD d0 (min d1 ((d0.2.2.2.2.2.2.length : Nat) : Int)).toNat).2.1), Value.bool ((settleD d0 (min d1 ((d0.2.2.2.2.2.2.length : Nat) : Int)).toNat).2.2.1), Value.int .i64 ((settleD d0 (min d1 ((d0.2.2.2.2.2.2.length : Nat) : Int)).toNat).2.2.2.1), Value.int .i64 ((settleD d0 (min d1 ((d0.2.2.2.2.2.2.length : Nat) : Int)).toNat).2.2.2.2.1), Value.slice q38_A5 ((((settleD d0 (min d1 ((d0.2.2.2.2.2.2.length : Nat) : Int)).toNat).2.2.2.2.2.1).1).length) (q38_c5), Value.slice A52_0 ((doneB (((settleD d0 (min d1 ((d0.2.2.2.2.2.2.length : Nat) : Int)).toNat).2.2.2.2.2.1).2.1) (x45.1, x45.2.1, (x45.2.2.1).take ((min d2 (((x45.2.2.1.length : Nat) : Int) - 1)).toNat), x45.2.2.2)).length) (c52_0), Value.slice q38_A7 ((((settleD d0 (min d1 ((d0.2.2.2.2.2.2.length : Nat) : Int)).toNat).2.2.2.2.2.1).2.2.1).length) (q38_c7), Value.slice q38_A8 ((((settleD d0 (min d1 ((d0.2.2.2.2.2.2.length : Nat) : Int)).toNat).2.2.2.2.2.1).2.2.2).length) (q38_c8), Value.slice (some ⟨gg45, oo45, none⟩) (((settleD d0 (min d1 ((d0.2.2.2.2.2.2.length : Nat) : Int)).toNat).2.2.2.2.2.2).length) (q38_c9)]) 144 rfl rfl (.inr ⟨tk25, rfl⟩) rfl rfl rfl rfl rfl ?_
                refine VO.k8 0 1 2 6 7 8 11 49 ?_
                refine outN ?_
                refine VC.rs ?_
                refine VO.mv ?_
                refine VO.mv ?_
                refine VO.mv ?_
                refine VO.mv ?_
                refine VO.y rfl (.nilp rfl) ?_
                refine VO.y rfl (.fa rfl tst72 rfl) ?_
                refine VO.store (k := 1) (c' := [Value.bool ((settleD d0 (min d1 ((d0.2.2.2.2.2.2.length : Nat) : Int)).toNat).1), Value.bool ((settleD d0 (min d1 ((d0.2.2.2.2.2.2.length : Nat) : Int)).toNat).2.1), Value.bool ((settleD d0 (min d1 ((d0.2.2.2.2.2.2.length : Nat) : Int)).toNat).2.2.1), Value.int .i64 ((settleD d0 (min d1 ((d0.2.2.2.2.2.2.length : Nat) : Int)).toNat).2.2.2.1), Value.int .i64 ((settleD d0 (min d1 ((d0.2.2.2.2.2.2.length : Nat) : Int)).toNat).2.2.2.2.1), Value.slice q38_A5 ((((settleD d0 (min d1 ((d0.2.2.2.2.2.2.length : Nat) : Int)).toNat).2.2.2.2.2.1).1).length) (q38_c5), Value.slice A52_0 ((doneB (((settleD d0 (min d1 ((d0.2.2.2.2.2.2.length : Nat) : Int)).toNat).2.2.2.2.2.1).2.1) (x45.1, x45.2.1, (x45.2.2.1).take ((min d2 (((x45.2.2.1.length : Nat) : Int) - 1)).toNat), x45.2.2.2)).length) (c52_0), Value.slice q38_A7 ((((settleD d0 (min d1 ((d0.2.2.2.2.2.2.length : Nat) : Int)).toNat).2.2.2.2.2.1).2.2.1).length) (q38_c7), Value.slice q38_A8 ((((settleD d0 (min d1 ((d0.2.2.2.2.2.2.length : Nat) : Int)).toNat).2.2.2.2.2.1).2.2.2).length) (q38_c8), Value.slice none (0) (0)]) 144 rfl rfl (.inr ⟨tk70, rfl⟩) rfl rfl rfl rfl rfl ?_
                refine VO.y rfl (.nilp rfl) ?_
                refine VO.y rfl (.fa rfl tst72 rfl) ?_
                refine VO.store (k := 1) (c' := [Value.bool ((settleD d0 (min d1 ((d0.2.2.2.2.2.2.length : Nat) : Int)).toNat).1), Value.bool false, Value.bool ((settleD d0 (min d1 ((d0.2.2.2.2.2.2.length : Nat) : Int)).toNat).2.2.1), Value.int .i64 ((settleD d0 (min d1 ((d0.2.2.2.2.2.2.length : Nat) : Int)).toNat).2.2.2.1), Value.int .i64 ((settleD d0 (min d1 ((d0.2.2.2.2.2.2.length : Nat) : Int)).toNat).2.2.2.2.1), Value.slice q38_A5 ((((settleD d0 (min d1 ((d0.2.2.2.2.2.2.length : Nat) : Int)).toNat).2.2.2.2.2.1).1).length) (q38_c5), Value.slice A52_0 ((doneB (((settleD d0 (min d1 ((d0.2.2.2.2.2.2.length : Nat) : Int)).toNat).2.2.2.2.2.1).2.1) (x45.1, x45.2.1, (x45.2.2.1).take ((min d2 (((x45.2.2.1.length : Nat) : Int) - 1)).toNat), x45.2.2.2)).length) (c52_0), Value.slice q38_A7 ((((settleD d0 (min d1 ((d0.2.2.2.2.2.2.length : Nat) : Int)).toNat).2.2.2.2.2.1).2.2.1).length) (q38_c7), Value.slice q38_A8 ((((settleD d0 (min d1 ((d0.2.2.2.2.2.2.length : Nat) : Int)).toNat).2.2.2.2.2.1).2.2.2).length) (q38_c8), Value.slice none (0) (0)]) 144 rfl rfl (.inr ⟨tk4, rfl⟩) rfl rfl rfl rfl rfl ?_
                refine VO.y rfl (.nilp rfl) ?_
                refine VO.y rfl (.fa rfl tst72 rfl) ?_
                refine VO.store (k := 1) (c' := [Value.bool ((settleD d0 (min d1 ((d0.2.2.2.2.2.2.length : Nat) : Int)).toNat).1), Value.bool false, Value.bool false, Value.int .i64 ((settleD d0 (min d1 ((d0.2.2.2.2.2.2.length : Nat) : Int)).toNat).2.2.2.1), Value.int .i64 ((settleD d0 (min d1 ((d0.2.2.2.2.2.2.length : Nat) : Int)).toNat).2.2.2.2.1), Value.slice q38_A5 ((((settleD d0 (min d1 ((d0.2.2.2.2.2.2.length : Nat) : Int)).toNat).2.2.2.2.2.1).1).length) (q38_c5), Value.slice A52_0 ((doneB (((settleD d0 (min d1 ((d0.2.2.2.2.2.2.length : Nat) : Int)).toNat).2.2.2.2.2.1).2.1) (x45.1, x45.2.1, (x45.2.2.1).take ((min d2 (((x45.2.2.1.length : Nat) : Int) - 1)).toNat), x45.2.2.2)).length) (c52_0), Value.slice q38_A7 ((((settleD d0 (min d1 ((d0.2.2.2.2.2.2.length : Nat) : Int)).toNat).2.2.2.2.2.1).2.2.1).length) (q38_c7), Value.slice q38_A8 ((((settleD d0 (min d1 ((d0.2.2.2.2.2.2.length : Nat) : Int)).toNat).2.2.2.2.2.1).2.2.2).length) (q38_c8), Value.slice none (0) (0)]) 144 rfl rfl (.inr ⟨tk4, rfl⟩) rfl rfl rfl rfl rfl ?_
                refine VO.y rfl (.nilp rfl) ?_
                refine VO.y rfl (.fa rfl tst72 rfl) ?_
                refine VO.store (k := 1) (c' := [Value.bool ((settleD d0 (min d1 ((d0.2.2.2.2.2.2.length : Nat) : Int)).toNat).1), Value.bool false, Value.bool false, Value.int .i64 (0), Value.int .i64 ((settleD d0 (min d1 ((d0.2.2.2.2.2.2.length : Nat) : Int)).toNat).2.2.2.2.1), Value.slice q38_A5 ((((settleD d0 (min d1 ((d0.2.2.2.2.2.2.length : Nat) : Int)).toNat).2.2.2.2.2.1).1).length) (q38_c5), Value.slice A52_0 ((doneB (((settleD d0 (min d1 ((d0.2.2.2.2.2.2.length : Nat) : Int)).toNat).2.2.2.2.2.1).2.1) (x45.1, x45.2.1, (x45.2.2.1).take ((min d2 (((x45.2.2.1.length : Nat) : Int) - 1)).toNat), x45.2.2.2)).length) (c52_0), Value.slice q38_A7 ((((settleD d0 (min d1 ((d0.2.2.2.2.2.2.length : Nat) : Int)).toNat).2.2.2.2.2.1).2.2.1).length) (q38_c7), Value.slice q38_A8 ((((settleD d0 (min d1 ((d0.2.2.2.2.2.2.length : Nat) : Int)).toNat).2.2.2.2.2.1).2.2.2).length) (q38_c8), Value.slice none (0) (0)]) 144 rfl rfl (.inr ⟨tk3, rfl⟩) rfl rfl rfl rfl rfl ?_
                refine VO.gather (l := [mone g0 (.cells [Value.bool ((settleD d0 (min d1 ((d0.2.2.2.2.2.2.length : Nat) : Int)).toNat).1), Value.bool false, Value.bool false, Value.int .i64 (0), Value.int .i64 ((settleD d0 (min d1 ((d0.2.2.2.2.2.2.length : Nat) : Int)).toNat).2.2.2.2.1), Value.slice q38_A5 ((((settleD d0 (min d1 ((d0.2.2.2.2.2.2.length : Nat) : Int)).toNat).2.2.2.2.2.1).1).length) (q38_c5), Value.slice A52_0 ((doneB (((settleD d0 (min d1 ((d0.2.2.2.2.2.2.length : Nat) : Int)).toNat).2.2.2.2.2.1).2.1) (x45.1, x45.2.1, (x45.2.2.1).take ((min d2 (((x45.2.2.1.length : Nat) : Int) - 1)).toNat), x45.2.2.2)).length) (c52_0), Value.slice q38_A7 ((((settleD d0 (min d1 ((d0.2.2.2.2.2.2.length : Nat) : Int)).toNat).2.2.2.2.2.1).2.2.1).length) (q38_c7), Value.slice q38_A8 ((((settleD d0 (min d1 ((d0.2.2.2.2.2.2.length : Nat) : Int)).toNat).2.2.2.2.2.1).2.2.2).length) (q38_c8), Value.slice none (0) (0)].toArray q38_E (0, 0)), q38_n5, m52, q38_n7, q38_n8]) 153 [144, 139, 140, 141, 142] rfl (fun hg53 => ?_)
                have ho53 : Ow (.ptr TdiskDisk) (muns [mone g0 (.cells [Value.bool ((settleD d0 (min d1 ((d0.2.2.2.2.2.2.length : Nat) : Int)).toNat).1), Value.bool false, Value.bool false, Value.int .i64 (0), Value.int .i64 ((settleD d0 (min d1 ((d0.2.2.2.2.2.2.length : Nat) : Int)).toNat).2.2.2.2.1), Value.slice q38_A5 ((((settleD d0 (min d1 ((d0.2.2.2.2.2.2.length : Nat) : Int)).toNat).2.2.2.2.2.1).1).length) (q38_c5), Value.slice A52_0 ((doneB (((settleD d0 (min d1 ((d0.2.2.2.2.2.2.length : Nat) : Int)).toNat).2.2.2.2.2.1).2.1) (x45.1, x45.2.1, (x45.2.2.1).take ((min d2 (((x45.2.2.1.length : Nat) : Int) - 1)).toNat), x45.2.2.2)).length) (c52_0), Value.slice q38_A7 ((((settleD d0 (min d1 ((d0.2.2.2.2.2.2.length : Nat) : Int)).toNat).2.2.2.2.2.1).2.2.1).length) (q38_c7), Value.slice q38_A8 ((((settleD d0 (min d1 ((d0.2.2.2.2.2.2.length : Nat) : Int)).toNat).2.2.2.2.2.1).2.2.2).length) (q38_c8), Value.slice none (0) (0)].toArray q38_E (0, 0)), q38_n5, m52, q38_n7, q38_n8]) [.pointer (some ⟨g0, 0, none⟩)] (g0, ((settleD d0 (min d1 ((d0.2.2.2.2.2.2.length : Nat) : Int)).toNat).1, false, false, 0, (settleD d0 (min d1 ((d0.2.2.2.2.2.2.length : Nat) : Int)).toNat).2.2.2.2.1, (((settleD d0 (min d1 ((d0.2.2.2.2.2.2.length : Nat) : Int)).toNat).2.2.2.2.2.1).1, doneB (((settleD d0 (min d1 ((d0.2.2.2.2.2.2.length : Nat) : Int)).toNat).2.2.2.2.2.1).2.1) (x45.1, x45.2.1, (x45.2.2.1).take ((min d2 (((x45.2.2.1.length : Nat) : Int) - 1)).toNat), x45.2.2.2), ((settleD d0 (min d1 ((d0.2.2.2.2.2.2.length : Nat) : Int)).toNat).2.2.2.2.2.1).2.2), [])) := (mkP_diskDisk ((settleD d0 (min d1 ((d0.2.2.2.2.2.2.length : Nat) : Int)).toNat).1) false false 0 ((settleD d0 (min d1 ((d0.2.2.2.2.2.2.length : Nat) : Int)).toNat).2.2.2.2.1) (((settleD d0 (min d1 ((d0.2.2.2.2.2.2.length : Nat) : Int)).toNat).2.2.2.2.2.1).1) (doneB (((settleD d0 (min d1 ((d0.2.2.2.2.2.2.length : Nat) : Int)).toNat).2.2.2.2.2.1).2.1) (x45.1, x45.2.1, (x45.2.2.1).take ((min d2 (((x45.2.2.1.length : Nat) : Int) - 1)).toNat), x45.2.2.2)) (((settleD d0 (min d1 ((d0.2.2.2.2.2.2.length : Nat) : Int)).toNat).2.2.2.2.2.1).2.2.1) (((settleD d0 (min d1 ((d0.2.2.2.2.2.2.length : Nat) : Int)).toNat).2.2.2.2.2.1).2.2.2) [] (Seps.nilAt 5 hg53) (by simp only [inK]; (first | omega | (simp only [List.length_append, List.length_nil, List.length_cons, List.length_take, List.length_drop] at *; omega) | (have h_ := start_good (by assumption) ‹_[0]? = some _›; simp only [inF] at h_; omega))) (by simp only [inK]; (first | omega | (simp only [List.length_append, List.length_nil, List.length_cons, List.length_take, List.length_drop] at *; omega) | (have h_ := start_good (by assumption) ‹_[0]? = some _›; simp only [inF] at h_; omega))) (OwnL.ow (Ow.ownl q38_5 rfl mnil) rfl) (OwnL.ow (Ow.ownl f52_0 rfl mnil) rfl) (OwnL.ow (Ow.ownl q38_7 rfl mnil) rfl) (OwnL.ow (Ow.ownl q38_8 rfl mnil) rfl) (Ow.nil _ _))
                refine VO.keep [153, 147, 143, 0] [(153, muns [mone g0 (.cells [Value.bool ((settleD d0 (min d1 ((d0.2.2.2.2.2.2.length : Nat) : Int)).toNat).1), Value.bool false, Value.bool false, Value.int .i64 (0), Value.int .i64 ((settleD d0 (min d1 ((d0.2.2.2.2.2.2.length : Nat) : Int)).toNat).2.2.2.2.1), Value.slice q38_A5 ((((settleD d0 (min d1 ((d0.2.2.2.2.2.2.length : Nat) : Int)).toNat).2.2.2.2.2.1).1).length) (q38_c5), Value.slice A52_0 ((doneB (((settleD d0 (min d1 ((d0.2.2.2.2.2.2.length : Nat) : Int)).toNat).2.2.2.2.2.1).2.1) (x45.1, x45.2.1, (x45.2.2.1).take ((min d2 (((x45.2.2.1.length : Nat) : Int) - 1)).toNat), x45.2.2.2)).length) (c52_0), Value.slice q38_A7 ((((settleD d0 (min d1 ((d0.2.2.2.2.2.2.length : Nat) : Int)).toNat).2.2.2.2.2.1).2.2.1).length) (q38_c7), Value.slice q38_A8 ((((settleD d0 (min d1 ((d0.2.2.2.2.2.2.length : Nat) : Int)).toNat).2.2.2.2.2.1).2.2.2).length) (q38_c8), Value.slice none (0) (0)].toArray q38_E (0, 0)), q38_n5, m52, q38_n7, q38_n8]), (147, mone g46 (.cells [Value.int .i64 (x45.1), Value.int .i64 (x45.2.1), Value.slice q45_A2 ((min d2 (((x45.2.2.1.length : Nat) : Int) - 1)).toNat) (q45_c2), Value.int .i64 (x45.2.2.2)].toArray 101 (0, 0))), (143, q38_n9), (0, mout (wm W) (m0))] (by kernel_rfl) ?_
                refine VO.k8 0 1 2 6 7 8 11 49 ?_
                refine VC.rs ?_
                refine VO.as ?_
                refine VO.k8 0 1 2 6 7 8 11 49 ?_
                refine VC.ret ?_
                refine ⟨_, _, res_run (rs := [.tmp 6]) rfl (.tmp rfl .nil), fun W_ hI => out_of (l := [muns [mone g0 (.cells [Value.bool ((settleD d0 (min d1 ((d0.2.2.2.2.2.2.length : Nat) : Int)).toNat).1), Value.bool false, Value.bool false, Value.int .i64 (0), Value.int .i64 ((settleD d0 (min d1 ((d0.2.2.2.2.2.2.length : Nat) : Int)).toNat).2.2.2.2.1), Value.slice q38_A5 ((((settleD d0 (min d1 ((d0.2.2.2.2.2.2.length : Nat) : Int)).toNat).2.2.2.2.2.1).1).length) (q38_c5), Value.slice A52_0 ((doneB (((settleD d0 (min d1 ((d0.2.2.2.2.2.2.length : Nat) : Int)).toNat).2.2.2.2.2.1).2.1) (x45.1, x45.2.1, (x45.2.2.1).take ((min d2 (((x45.2.2.1.length : Nat) : Int) - 1)).toNat), x45.2.2.2)).length) (c52_0), Value.slice q38_A7 ((((settleD d0 (min d1 ((d0.2.2.2.2.2.2.length : Nat) : Int)).toNat).2.2.2.2.2.1).2.2.1).length) (q38_c7), Value.slice q38_A8 ((((settleD d0 (min d1 ((d0.2.2.2.2.2.2.length : Nat) : Int)).toNat).2.2.2.2.2.1).2.2.2).length) (q38_c8), Value.slice none (0) (0)].toArray q38_E (0, 0)), q38_n5, m52, q38_n7, q38_n8]]) hI [153] rfl rfl (mle_refl _) (fun hS_ => ?_)⟩
                dsimp only [packV]
                have hm0_ : ((dStart d0 d1 d2).1 : DdiskDisk) = ((settleD d0 (min d1 ((d0.2.2.2.2.2.2.length : Nat) : Int)).toNat).1, false, false, 0, (settleD d0 (min d1 ((d0.2.2.2.2.2.2.length : Nat) : Int)).toNat).2.2.2.2.1, (((settleD d0 (min d1 ((d0.2.2.2.2.2.2.length : Nat) : Int)).toNat).2.2.2.2.2.1).1, doneB (((settleD d0 (min d1 ((d0.2.2.2.2.2.2.length : Nat) : Int)).toNat).2.2.2.2.2.1).2.1) (x45.1, x45.2.1, (x45.2.2.1).take ((min d2 (((x45.2.2.1.length : Nat) : Int) - 1)).toNat), x45.2.2.2), ((settleD d0 (min d1 ((d0.2.2.2.2.2.2.length : Nat) : Int)).toNat).2.2.2.2.2.1).2.2), []) := by first | rfl | (first | (rw [start_bad1 (by assumption)] <;> rfl) | (rw [start_bad2 (by assumption) (.inl (by simpa using ‹_›))] <;> rfl) | (rw [start_bad2 (by assumption) (.inr (.inl (by assumption)))] <;> rfl) | (rw [start_bad2 (by assumption) (.inr (.inr (by assumption)))] <;> rfl) | (rw [start_go (by assumption) (by simpa using ‹_›) (by assumption) (by assumption), torn_nil (by omega)] <;> rfl) | (rw [start_go (by assumption) (by simpa using ‹_›) (by assumption) (by assumption), torn_no (by assumption) (by assumption)] <;> rfl) | (rw [start_go (by assumption) (by simpa using ‹_›) (by assumption) (by assumption), torn_yes (by assumption) (by assumption), stepQ, setQ0 ‹_ = (0 : Int)›, getF0 ‹_ = (0 : Int)›] <;> rfl) | (rw [start_go (by assumption) (by simpa using ‹_›) (by assumption) (by assumption), torn_yes (by assumption) (by assumption), stepQ, setQ1 ‹_ = (1 : Int)›, getF1 ‹_ = (1 : Int)›] <;> rfl) | (rw [start_go (by assumption) (by simpa using ‹_›) (by assumption) (by assumption), torn_yes (by assumption) (by assumption), stepQ, setQ2 ‹_ = (2 : Int)›, getF2 ‹_ = (2 : Int)›] <;> rfl) | (rw [start_go (by assumption) (by simpa using ‹_›) (by assumption) (by assumption), torn_yes (by assumption) (by assumption), stepQ, setQ3 ‹_ = (3 : Int)›, getF3 ‹_ = (3 : Int)›] <;> rfl))
                refine ⟨?_, ?_⟩
                rotate_left
                · rw [hm0_]; exact (Ow.up ho53 (hS_.1 _ (.head _)))
                all_goals (first | rfl | (first | (rw [start_bad1 (by assumption)] <;> rfl) | (rw [start_bad2 (by assumption) (.inl (by simpa using ‹_›))] <;> rfl) | (rw [start_bad2 (by assumption) (.inr (.inl (by assumption)))] <;> rfl) | (rw [start_bad2 (by assumption) (.inr (.inr (by assumption)))] <;> rfl) | (rw [start_go (by assumption) (by simpa using ‹_›) (by assumption) (by assumption), torn_nil (by omega)] <;> rfl) | (rw [start_go (by assumption) (by simpa using ‹_›) (by assumption) (by assumption), torn_no (by assumption) (by assumption)] <;> rfl) | (rw [start_go (by assumption) (by simpa using ‹_›) (by assumption) (by assumption), torn_yes (by assumption) (by assumption), stepQ, setQ0 ‹_ = (0 : Int)›, getF0 ‹_ = (0 : Int)›] <;> rfl) | (rw [start_go (by assumption) (by simpa using ‹_›) (by assumption) (by assumption), torn_yes (by assumption) (by assumption), stepQ, setQ1 ‹_ = (1 : Int)›, getF1 ‹_ = (1 : Int)›] <;> rfl) | (rw [start_go (by assumption) (by simpa using ‹_›) (by assumption) (by assumption), torn_yes (by assumption) (by assumption), stepQ, setQ2 ‹_ = (2 : Int)›, getF2 ‹_ = (2 : Int)›] <;> rfl) | (rw [start_go (by assumption) (by simpa using ‹_›) (by assumption) (by assumption), torn_yes (by assumption) (by assumption), stepQ, setQ3 ‹_ = (3 : Int)›, getF3 ‹_ = (3 : Int)›] <;> rfl)))
              · -- FFFFTT2
                refine VD.y rfl rfl (.inl rfl) (.ixa (i := 2) (o := 7) rfl rfl tar69 hi49 rfl rfl) ?_
                refine VD.y rfl rfl (.inl rfl) (.ld1 144 rfl tk25 rfl (cellsAt_one rfl rfl)) ?_
                refine VD.y rfl rfl (.inl rfl) (.ldA 147 rfl tk101 rfl (cellsAt_one rfl rfl)) ?_
                refine VD.y rfl rfl (.inl rfl) (.nilp rfl) ?_
                refine VD.y rfl rfl (.inl rfl) (.fa rfl tst72 rfl) ?_
                refine VD.call 141 rfl rfl (.inl rfl) fnOk84 rfl rfl (fun _ _ h => h.sub [147, 144, 143, 0]) (fun W hW => dDone_ok W (hW.at (i := 141) rfl) (OwnL.ow (Ow.ownl q38_7 rfl mnil) rfl) (mk_diskstep (m := mout (wm W) (q38_n7)) x45.1 x45.2.1 ((x45.2.2.1).take ((min d2 (((x45.2.2.1.length : Nat) : Int) - 1)).toNat)) x45.2.2.2 (by simp only [inK]; (first | omega | (simp only [List.length_append, List.length_nil, List.length_cons, List.length_take, List.length_drop] at *; omega) | (have h_ := start_good (by assumption) ‹_[0]? = some _›; simp only [inF] at h_; omega))) (by simp only [inK]; (first | omega | (simp only [List.length_append, List.length_nil, List.length_cons, List.length_take, List.length_drop] at *; omega) | (have h_ := start_good (by assumption) ‹_[0]? = some _›; simp only [inF] at h_; omega))) (Rd.mono hs48 (hW.out (i := 141) (j := 143) rfl rfl)) (by simp only [inK]; (first | omega | (simp only [List.length_append, List.length_nil, List.length_cons, List.length_take, List.length_drop] at *; omega) | (have h_ := start_good (by assumption) ‹_[0]? = some _›; simp only [inF] at h_; omega)))) (by intro h_; omega) (by (have h_ := (start_good (by assumption) ‹_[0]? = some _›).2.2; first | (rw [getF0 ‹_ = (0 : Int)›] at h_; simp only [List.length_take]; omega) | (rw [getF1 ‹_ = (1 : Int)›] at h_; simp only [List.length_take]; omega) | (rw [getF2 ‹_ = (2 : Int)›] at h_; simp only [List.length_take]; omega) | (rw [getF3 ‹_ = (3 : Int)›] at h_; simp only [List.length_take]; omega)))) (fun v54 m54 hv54 => ?_)
                try dsimp only at hv54
                obtain ⟨s54_0, rfl, f54_0⟩ := hv54
                obtain ⟨A54_0, c54_0, eq54_0, l54_0, k54_0⟩ := f54_0.slice
                subst eq54_0
                simp only [maxLen] at k54_0
                refine VD.nil rfl ?_ rfl
                refine VO.y rfl (.ixa (i := 2) (o := 7) rfl rfl tar69 hi49 rfl rfl) ?_
                refine VO.store (k := 1) (c' := [Value.bool ((settleD d0 (min d1 ((d0.2.2.2.2.2.2.length : Nat) : Int)).toNat).1), Value.bool ((settleD d0 (min d1 ((d0.2.2.2.2.2.2.length : Nat) : Int)).toNat).2.1), Value.bool ((settleD d0 (min d1 ((d0.2.2.2.2.2.2.length : Nat) : Int)).toNat).2.2.1), Value.int .i64 ((settleD d0 (min d1 ((d0.2.2.2.2.2.2.length : Nat) : Int)).toNat).2.2.2.1), Value.int .i64 ((settleD d0 (min d1 ((d0.2.2.2.2.2.2.length : Nat) : Int)).toNat).2.2.2.2.1), Value.slice q38_A5 ((((settleD d0 (min d1 ((d0.2.2.2.2.2.2.length : Nat) : Int)).toNat).2.2.2.2.2.1).1).length) (q38_c5), Value.slice q38_A6 ((((settleD d0 (min d1 ((d0.2.2.2.2.2.2.length : Nat) : Int)).toNat).2.2.2.2.2.1).2.1).length) (q38_c6), Value.slice A54_0 ((doneB (((settleD d0 (min d1 ((d0.2.2.2.2.2.2.length : Nat) : Int)).toNat).2.2.2.2.2.1).2.2.1) (x45.1, x45.2.1, (x45.2.2.1).take ((min d2 (((x45.2.2.1.length : Nat) : Int) - 1)).toNat), x45.2.2.2)).length) (c54_0), Value.slice q38_A8 ((((settleD d0 (min d1 ((d0.2.2.2.2.2.2.length : Nat) : Int)).toNat).2.2.2.2.2.1).2.2.2).length) (q38_c8), Value.slice (some ⟨gg45, oo45, none⟩) (((settleD d0 (min d1 ((d0.2.2.2.2.2.2.length : Nat) : Int)).toNat).2.2.2.2.2.2).length) (q38_c9)]) 144 rfl rfl (.inr ⟨tk25, rfl⟩) rfl rfl rfl rfl rfl ?_
                refine VO.k8 0 1 2 6 7 8 11 49 ?_
                refine outN ?_
                refine VC.rs ?_
                refine VO.mv ?_
                refine VO.mv ?_
                refine VO.mv ?_
                refine VO.mv ?_
                refine VO.y rfl (.nilp rfl) ?_
                refine VO.y rfl (.fa rfl tst72 rfl) ?_
                refine VO.store (k := 1) (c' := [Value.bool ((settleD d0 (min d1 ((d0.2.2.2.2.2.2.length : Nat) : Int)).toNat).1), Value.bool ((settleD d0 (min d1 ((d0.2.2.2.2.2.2.length : Nat) : Int)).toNat).2.1), Value.bool ((settleD d0 (min d1 ((d0.2.2.2.2.2.2.length : Nat) : Int)).toNat).2.2.1), Value.int .i64 ((settleD d0 (min d1 ((d0.2.2.2.2.2.2.length : Nat) : Int)).toNat).2.2.2.1), Value.int .i64 ((settleD d0 (min d1 ((d0.2.2.2.2.2.2.length : Nat) : Int)).toNat).2.2.2.2.1), Value.slice q38_A5 ((((settleD d0 (min d1 ((d0.2.2.2.2.2.2.length : Nat) : Int)).toNat).2.2.2.2.2.1).1).length) (q38_c5), Value.slice q38_A6 ((((settleD d0 (min d1 ((d0.2.2.2.2.2.2.length : Nat) : Int)).toNat).2.2.2.2.2.1).2.1).length) (q38_c6), Value.slice A54_0 ((doneB (((settleD d0 (min d1 ((d0.2.2.2.2.2.2.length : Nat) : Int)).toNat).2.2.2.2.2.1).2.2.1) (x45.1, x45.2.1, (x45.2.2.1).take ((min d2 (((x45.2.2.1.length : Nat) : Int) - 1)).toNat), x45.2.2.2)).length) (c54_0), Value.slice q38_A8 ((((settleD d0 (min d1 ((d0.2.2.2.2.2.2.length : Nat) : Int)).toNat).2.2.2.2.2.1).2.2.2).length) (q38_c8), Value.slice none (0) (0)]) 144 rfl rfl (.inr ⟨tk70, rfl⟩) rfl rfl rfl rfl rfl ?_
                refine VO.y rfl (.nilp rfl) ?_
                refine VO.y rfl (.fa rfl tst72 rfl) ?_
                refine VO.store (k := 1) (c' := [Value.bool ((settleD d0 (min d1 ((d0.2.2.2.2.2.2.length : Nat) : Int)).toNat).1), Value.bool false, Value.bool ((settleD d0 (min d1 ((d0.2.2.2.2.2.2.length : Nat) : Int)).toNat).2.2.1), Value.int .i64 ((settleD d0 (min d1 ((d0.2.2.2.2.2.2.length : Nat) : Int)).toNat).2.2.2.1), Value.int .i64 ((settleD d0 (min d1 ((d0.2.2.2.2.2.2.length : Nat) : Int)).toNat).2.2.2.2.1), Value.slice q38_A5 ((((settleD d0 (min d1 ((d0.2.2.2.2.2.2.length : Nat) : Int)).toNat).2.2.2.2.2.1).1).length) (q38_c5), Value.slice q38_A6 ((((settleD d0 (min d1 ((d0.2.2.2.2.2.2.length : Nat) : Int)).toNat).2.2.2.2.2.1).2.1).length) (q38_c6), Value.slice A54_0 ((doneB (((settleD d0 (min d1 ((d0.2.2.2.2.2.2.length : Nat) : Int)).toNat).2.2.2.2.2.1).2.2.1) (x45.1, x45.2.1, (x45.2.2.1).take ((min d2 (((x45.2.2.1.length : Nat) : Int) - 1)).toNat), x45.2.2.2)).length) (c54_0), Value.slice q38_A8 ((((settleD d0 (min d1 ((d0.2.2.2.2.2.2.length : Nat) : Int)).toNat).2.2.2.2.2.1).2.2.2).length) (q38_c8), Value.slice none (0) (0)]) 144 rfl rfl (.inr ⟨tk4, rfl⟩) rfl rfl rfl rfl rfl ?_
                refine VO.y rfl (.nilp rfl) ?_
                refine VO.y rfl (.fa rfl tst72 rfl) ?_
                refine VO.store (k := 1) (c' := [Value.bool ((settleD d0 (min d1 ((d0.2.2.2.2.2.2.length : Nat) : Int)).toNat).1), Value.bool false, Value.bool false, Value.int .i64 ((settleD d0 (min d1 ((d0.2.2.2.2.2.2.length : Nat) : Int)).toNat).2.2.2.1), Value.int .i64 ((settleD d0 (min d1 ((d0.2.2.2.2.2.2.length : Nat) : Int)).toNat).2.2.2.2.1), Value.slice q38_A5 ((((settleD d0 (min d1 ((d0.2.2.2.2.2.2.length : Nat) : Int)).toNat).2.2.2.2.2.1).1).length) (q38_c5), Value.slice q38_A6 ((((settleD d0 (min d1 ((d0.2.2.2.2.2.2.length : Nat) : Int)).toNat).2.2.2.2.2.1).2.1).length) (q38_c6), Value.slice A54_0 ((doneB (((settleD d0 (min d1 ((d0.2.2.2.2.2.2.length : Nat) : Int)).toNat).2.2.2.2.2.1).2.2.1) (x45.1, x45.2.1, (x45.2.2.1).take ((min d2 (((x45.2.2.1.length : Nat) : Int) - 1)).toNat), x45.2.2.2)).length) (c54_0), Value.slice q38_A8 ((((settleD d0 (min d1 ((d0.2.2.2.2.2.2.length : Nat) : Int)).toNat).2.2.2.2.2.1).2.2.2).length) (q38_c8), Value.slice none (0) (0)]) 144 rfl rfl (.inr ⟨tk4, rfl⟩) rfl rfl rfl rfl rfl ?_
                refine VO.y rfl (.nilp rfl) ?_
                refine VO.y rfl (.fa rfl tst72 rfl) ?_
                refine VO.store (k := 1) (c' := [Value.bool ((settleD d0 (min d1 ((d0.2.2.2.2.2.2.length : Nat) : Int)).toNat).1), Value.bool false, Value.bool false, Value.int .i64 (0), Value.int .i64 ((settleD d0 (min d1 ((d0.2.2.2.2.2.2.length : Nat) : Int)).toNat).2.2.2.2.1), Value.slice q38_A5 ((((settleD d0 (min d1 ((d0.2.2.2.2.2.2.length : Nat) : Int)).toNat).2.2.2.2.2.1).1).length) (q38_c5), Value.slice q38_A6 ((((settleD d0 (min d1 ((d0.2.2.2.2.2.2.length : Nat) : Int)).toNat).2.2.2.2.2.1).2.1).length) (q38_c6), Value.slice A54_0 ((doneB (((settleD d0 (min d1 ((d0.2.2.2.2.2.2.length : Nat) : Int)).toNat).2.2.2.2.2.1).2.2.1) (x45.1, x45.2.1, (x45.2.2.1).take ((min d2 (((x45.2.2.1.length : Nat) : Int) - 1)).toNat), x45.2.2.2)).length) (c54_0), Value.slice q38_A8 ((((settleD d0 (min d1 ((d0.2.2.2.2.2.2.length : Nat) : Int)).toNat).2.2.2.2.2.1).2.2.2).length) (q38_c8), Value.slice none (0) (0)]) 144 rfl rfl (.inr ⟨tk3, rfl⟩) rfl rfl rfl rfl rfl ?_
                refine VO.gather (l := [mone g0 (.cells [Value.bool ((settleD d0 (min d1 ((d0.2.2.2.2.2.2.length : Nat) : Int)).toNat).1), Value.bool false, Value.bool false, Value.int .i64 (0), Value.int .i64 ((settleD d0 (min d1 ((d0.2.2.2.2.2.2.length : Nat) : Int)).toNat).2.2.2.2.1), Value.slice q38_A5 ((((settleD d0 (min d1 ((d0.2.2.2.2.2.2.length : Nat) : Int)).toNat).2.2.2.2.2.1).1).length) (q38_c5), Value.slice q38_A6 ((((settleD d0 (min d1 ((d0.2.2.2.2.2.2.length : Nat) : Int)).toNat).2.2.2.2.2.1).2.1).length) (q38_c6), Value.slice A54_0 ((doneB (((settleD d0 (min d1 ((d0.2.2.2.2.2.2.length : Nat) : Int)).toNat).2.2.2.2.2.1).2.2.1) (x45.1, x45.2.1, (x45.2.2.1).take ((min d2 (((x45.2.2.1.length : Nat) : Int) - 1)).toNat), x45.2.2.2)).length) (c54_0), Value.slice q38_A8 ((((settleD d0 (min d1 ((d0.2.2.2.2.2.2.length : Nat) : Int)).toNat).2.2.2.2.2.1).2.2.2).length) (q38_c8), Value.slice none (0) (0)].toArray q38_E (0, 0)), q38_n5, q38_n6, m54, q38_n8]) 155 [144, 139, 140, 141, 142] rfl (fun hg55 => ?_)
                have ho55 : Ow (.ptr TdiskDisk) (muns [mone g0 (.cells [Value.bool ((settleD d0 (min d1 ((d0.2.2.2.2.2.2.length : Nat) : Int)).toNat).1), Value.bool false, Value.bool false, Value.int .i64 (0), Value.int .i64 ((settleD d0 (min d1 ((d0.2.2.2.2.2.2.length : Nat) : Int)).toNat).2.2.2.2.1), Value.slice q38_A5 ((((settleD d0 (min d1 ((d0.2.2.2.2.2.2.length : Nat) : Int)).toNat).2.2.2.2.2.1).1).length) (q38_c5), Value.slice q38_A6 ((((settleD d0 (min d1 ((d0.2.2.2.2.2.2.length : Nat) : Int)).toNat).2.2.2.2.2.1).2.1).length) (q38_c6), Value.slice A54_0 ((doneB (((settleD d0 (min d1 ((d0.2.2.2.2.2.2.length : Nat) : Int)).toNat).2.2.2.2.2.1).2.2.1) (x45.1, x45.2.1, (x45.2.2.1).take ((min d2 (((x45.2.2.1.length : Nat) : Int) - 1)).toNat), x45.2.2.2)).length) (c54_0), Value.slice q38_A8 ((((settleD d0 (min d1 ((d0.2.2.2.2.2.2.length : Nat) : Int)).toNat).2.2.2.2.2.1).2.2.2).length) (q38_c8), Value.slice none (0) (0)].toArray q38_E (0, 0)), q38_n5, q38_n6, m54, q38_n8]) [.pointer (some ⟨g0, 0, none⟩)] (g0, ((settleD d0 (min d1 ((d0.2.2.2.2.2.2.length : Nat) : Int)).toNat).1, false, false, 0, (settleD d0 (min d1 ((d0.2.2.2.2.2.2.length : Nat) : Int)).toNat).2.2.2.2.1, (((settleD d0 (min d1 ((d0.2.2.2.2.2.2.length : Nat) : Int)).toNat).2.2.2.2.2.1).1, ((settleD d0 (min d1 ((d0.2.2.2.2.2.2.length : Nat) : Int)).toNat).2.2.2.2.2.1).2.1, doneB (((settleD d0 (min d1 ((d0.2.2.2.2.2.2.length : Nat) : Int)).toNat).2.2.2.2.2.1).2.2.1) (x45.1, x45.2.1, (x45.2.2.1).take ((min d2 (((x45.2.2.1.length : Nat) : Int) - 1)).toNat), x45.2.2.2), ((settleD d0 (min d1 ((d0.2.2.2.2.2.2.length : Nat) : Int)).toNat).2.2.2.2.2.1).2.2.2), [])) := (mkP_diskDisk ((settleD d0 (min d1 ((d0.2.2.2.2.2.2.length : Nat) : Int)).toNat).1) false false 0 ((settleD d0 (min d1 ((d0.2.2.2.2.2.2.length : Nat) : Int)).toNat).2.2.2.2.1) (((settleD d0 (min d1 ((d0.2.2.2.2.2.2.length : Nat) : Int)).toNat).2.2.2.2.2.1).1) (((settleD d0 (min d1 ((d0.2.2.2.2.2.2.length : Nat) : Int)).toNat).2.2.2.2.2.1).2.1) (doneB (((settleD d0 (min d1 ((d0.2.2.2.2.2.2.length : Nat) : Int)).toNat).2.2.2.2.2.1).2.2.1) (x45.1, x45.2.1, (x45.2.2.1).take ((min d2 (((x45.2.2.1.length : Nat) : Int) - 1)).toNat), x45.2.2.2)) (((settleD d0 (min d1 ((d0.2.2.2.2.2.2.length : Nat) : Int)).toNat).2.2.2.2.2.1).2.2.2) [] (Seps.nilAt 5 hg55) (by simp only [inK]; (first | omega | (simp only [List.length_append, List.length_nil, List.length_cons, List.length_take, List.length_drop] at *; omega) | (have h_ := start_good (by assumption) ‹_[0]? = some _›; simp only [inF] at h_; omega))) (by simp only [inK]; (first | omega | (simp only [List.length_append, List.length_nil, List.length_cons, List.length_take, List.length_drop] at *; omega) | (have h_ := start_good (by assumption) ‹_[0]? = some _›; simp only [inF] at h_; omega))) (OwnL.ow (Ow.ownl q38_5 rfl mnil) rfl) (OwnL.ow (Ow.ownl q38_6 rfl mnil) rfl) (OwnL.ow (Ow.ownl f54_0 rfl mnil) rfl) (OwnL.ow (Ow.ownl q38_8 rfl mnil) rfl) (Ow.nil _ _))
                refine VO.keep [155, 147, 143, 0] [(155, muns [mone g0 (.cells [Value.bool ((settleD d0 (min d1 ((d0.2.2.2.2.2.2.length : Nat) : Int)).toNat).1), Value.bool false, Value.bool false, Value.int .i64 (0), Value.int .i64 ((settleD d0 (min d1 ((d0.2.2.2.2.2.2.length : Nat) : Int)).toNat).2.2.2.2.1), Value.slice q38_A5 ((((settleD d0 (min d1 ((d0.2.2.2.2.2.2.length : Nat) : Int)).toNat).2.2.2.2.2.1).1).length) (q38_c5), Value.slice q38_A6 ((((settleD d0 (min d1 ((d0.2.2.2.2.2.2.length : Nat) : Int)).toNat).2.2.2.2.2.1).2.1).length) (q38_c6), Value.slice A54_0 ((doneB (((settleD d0 (min d1 ((d0.2.2.2.2.2.2.length : Nat) : Int)).toNat).2.2.2.2.2.1).2.2.1) (x45.1, x45.2.1, (x45.2.2.1).take ((min d2 (((x45.2.2.1.length : Nat) : Int) - 1)).toNat), x45.2.2.2)).length) (c54_0), Value.slice q38_A8 ((((settleD d0 (min d1 ((d0.2.2.2.2.2.2.length : Nat) : Int)).toNat).2.2.2.2.2.1).2.2.2).length) (q38_c8), Value.slice none (0) (0)].toArray q38_E (0, 0)), q38_n5, q38_n6, m54, q38_n8]), (147, mone g46 (.cells [Value.int .i64 (x45.1), Value.int .i64 (x45.2.1), Value.slice q45_A2 ((min d2 (((x45.2.2.1.length : Nat) : Int) - 1)).toNat) (q45_c2), Value.int .i64 (x45.2.2.2)].toArray 101 (0, 0))), (143, q38_n9), (0, mout (wm W) (m0))] (by kernel_rfl) ?_
                refine VO.k8 0 1 2 6 7 8 11 49 ?_
                refine VC.rs ?_
                refine VO.as ?_
                refine VO.k8 0 1 2 6 7 8 11 49 ?_
                refine VC.ret ?_
                refine ⟨_, _, res_run (rs := [.tmp 6]) rfl (.tmp rfl .nil), fun W_ hI => out_of (l := [muns [mone g0 (.cells [Value.bool ((settleD d0 (min d1 ((d0.2.2.2.2.2.2.length : Nat) : Int)).toNat).1), Value.bool false, Value.bool false, Value.int .i64 (0), Value.int .i64 ((settleD d0 (min d1 ((d0.2.2.2.2.2.2.length : Nat) : Int)).toNat).2.2.2.2.1), Value.slice q38_A5 ((((settleD d0 (min d1 ((d0.2.2.2.2.2.2.length : Nat) : Int)).toNat).2.2.2.2.2.1).1).length) (q38_c5), Value.slice q38_A6 ((((settleD d0 (min d1 ((d0.2.2.2.2.2.2.length : Nat) : Int)).toNat).2.2.2.2.2.1).2.1).length) (q38_c6), Value.slice A54_0 ((doneB (((settleD d0 (min d1 ((d0.2.2.2.2.2.2.length : Nat) : Int)).toNat).2.2.2.2.2.1).2.2.1) (x45.1, x45.2.1, (x45.2.2.1).take ((min d2 (((x45.2.2.1.length : Nat) : Int) - 1)).toNat), x45.2.2.2)).length) (c54_0), Value.slice q38_A8 ((((settleD d0 (min d1 ((d0.2.2.2.2.2.2.length : Nat) : Int)).toNat).2.2.2.2.2.1).2.2.2).length) (q38_c8), Value.slice none (0) (0)].toArray q38_E (0, 0)), q38_n5, q38_n6, m54, q38_n8]]) hI [155] rfl rfl (mle_refl _) (fun hS_ => ?_)⟩
                dsimp only [packV]
                have hm0_ : ((dStart d0 d1 d2).1 : DdiskDisk) = ((settleD d0 (min d1 ((d0.2.2.2.2.2.2.length : Nat) : Int)).toNat).1, false, false, 0, (settleD d0 (min d1 ((d0.2.2.2.2.2.2.length : Nat) : Int)).toNat).2.2.2.2.1, (((settleD d0 (min d1 ((d0.2.2.2.2.2.2.length : Nat) : Int)).toNat).2.2.2.2.2.1).1, ((settleD d0 (min d1 ((d0.2.2.2.2.2.2.length : Nat) : Int)).toNat).2.2.2.2.2.1).2.1, doneB (((settleD d0 (min d1 ((d0.2.2.2.2.2.2.length : Nat) : Int)).toNat).2.2.2.2.2.1).2.2.1) (x45.1, x45.2.1, (x45.2.2.1).take ((min d2 (((x45.2.2.1.length : Nat) : Int) - 1)).toNat), x45.2.2.2), ((settleD d0 (min d1 ((d0.2.2.2.2.2.2.length : Nat) : Int)).toNat).2.2.2.2.2.1).2.2.2), []) := by first | rfl | (first | (rw [start_bad1 (by assumption)] <;> rfl) | (rw [start_bad2 (by assumption) (.inl (by simpa using ‹_›))] <;> rfl) | (rw [start_bad2 (by assumption) (.inr (.inl (by assumption)))] <;> rfl) | (rw [start_bad2 (by assumption) (.inr (.inr (by assumption)))] <;> rfl) | (rw [start_go (by assumption) (by simpa using ‹_›) (by assumption) (by assumption), torn_nil (by omega)] <;> rfl) | (rw [start_go (by assumption) (by simpa using ‹_›) (by assumption) (by assumption), torn_no (by assumption) (by assumption)] <;> rfl) | (rw [start_go (by assumption) (by simpa using ‹_›) (by assumption) (by assumption), torn_yes (by assumption) (by assumption), stepQ, setQ0 ‹_ = (0 : Int)›, getF0 ‹_ = (0 : Int)›] <;> rfl) | (rw [start_go (by assumption) (by simpa using ‹_›) (by assumption) (by assumption), torn_yes (by assumption) (by assumption), stepQ, setQ1 ‹_ = (1 : Int)›, getF1 ‹_ = (1 : Int)›] <;> rfl) | (rw [start_go (by assumption) (by simpa using ‹_›) (by assumption) (by assumption), torn_yes (by assumption) (by assumption), stepQ, setQ2 ‹_ = (2 : Int)›, getF2 ‹_ = (2 : Int)›] <;> rfl) | (rw [start_go (by assumption) (by simpa using ‹_›) (by assumption) (by assumption), torn_yes (by assumption) (by assumption), stepQ, setQ3 ‹_ = (3 : Int)›, getF3 ‹_ = (3 : Int)›] <;> rfl))
                refine ⟨?_, ?_⟩
                rotate_left
                · rw [hm0_]; exact (Ow.up ho55 (hS_.1 _ (.head _)))
                all_goals (first | rfl | (first | (rw [start_bad1 (by assumption)] <;> rfl) | (rw [start_bad2 (by assumption) (.inl (by simpa using ‹_›))] <;> rfl) | (rw [start_bad2 (by assumption) (.inr (.inl (by assumption)))] <;> rfl) | (rw [start_bad2 (by assumption) (.inr (.inr (by assumption)))] <;> rfl) | (rw [start_go (by assumption) (by simpa using ‹_›) (by assumption) (by assumption), torn_nil (by omega)] <;> rfl) | (rw [start_go (by assumption) (by simpa using ‹_›) (by assumption) (by assumption), torn_no (by assumption) (by assumption)] <;> rfl) | (rw [start_go (by assumption) (by simpa using ‹_›) (by assumption) (by assumption), torn_yes (by assumption) (by assumption), stepQ, setQ0 ‹_ = (0 : Int)›, getF0 ‹_ = (0 : Int)›] <;> rfl) | (rw [start_go (by assumption) (by simpa using ‹_›) (by assumption) (by assumption), torn_yes (by assumption) (by assumption), stepQ, setQ1 ‹_ = (1 : Int)›, getF1 ‹_ = (1 : Int)›] <;> rfl) | (rw [start_go (by assumption) (by simpa using ‹_›) (by assumption) (by assumption), torn_yes (by assumption) (by assumption), stepQ, setQ2 ‹_ = (2 : Int)›, getF2 ‹_ = (2 : Int)›] <;> rfl) | (rw [start_go (by assumption) (by simpa using ‹_›) (by assumption) (by assumption), torn_yes (by assumption) (by assumption), stepQ, setQ3 ‹_ = (3 : Int)›, getF3 ‹_ = (3 : Int)›] <;> rfl)))
              · -- FFFFTT3
                refine VD.y rfl rfl (.inl rfl) (.ixa (i := 3) (o := 8) rfl rfl tar69 hi49 rfl rfl) ?_
                refine VD.y rfl rfl (.inl rfl) (.ld1 144 rfl tk25 rfl (cellsAt_one rfl rfl)) ?_
                refine VD.y rfl rfl (.inl rfl) (.ldA 147 rfl tk101 rfl (cellsAt_one rfl rfl)) ?_
                refine VD.y rfl rfl (.inl rfl) (.nilp rfl) ?_
                refine VD.y rfl rfl (.inl rfl) (.fa rfl tst72 rfl) ?_
                refine VD.call 142 rfl rfl (.inl rfl) fnOk84 rfl rfl (fun _ _ h => h.sub [147, 144, 143, 0]) (fun W hW => dDone_ok W (hW.at (i := 142) rfl) (OwnL.ow (Ow.ownl q38_8 rfl mnil) rfl) (mk_diskstep (m := mout (wm W) (q38_n8)) x45.1 x45.2.1 ((x45.2.2.1).take ((min d2 (((x45.2.2.1.length : Nat) : Int) - 1)).toNat)) x45.2.2.2 (by simp only [inK]; (first | omega | (simp only [List.length_append, List.length_nil, List.length_cons, List.length_take, List.length_drop] at *; omega) | (have h_ := start_good (by assumption) ‹_[0]? = some _›; simp only [inF] at h_; omega))) (by simp only [inK]; (first | omega | (simp only [List.length_append, List.length_nil, List.length_cons, List.length_take, List.length_drop] at *; omega) | (have h_ := start_good (by assumption) ‹_[0]? = some _›; simp only [inF] at h_; omega))) (Rd.mono hs48 (hW.out (i := 142) (j := 143) rfl rfl)) (by simp only [inK]; (first | omega | (simp only [List.length_append, List.length_nil, List.length_cons, List.length_take, List.length_drop] at *; omega) | (have h_ := start_good (by assumption) ‹_[0]? = some _›; simp only [inF] at h_; omega)))) (by intro h_; omega) (by (have h_ := (start_good (by assumption) ‹_[0]? = some _›).2.2; first | (rw [getF0 ‹_ = (0 : Int)›] at h_; simp only [List.length_take]; omega) | (rw [getF1 ‹_ = (1 : Int)›] at h_; simp only [List.length_take]; omega) | (rw [getF2 ‹_ = (2 : Int)›] at h_; simp only [List.length_take]; omega) | (rw [getF3 ‹_ = (3 : Int)›] at h_; simp only [List.length_take]; omega)))) (fun v56 m56 hv56 => ?_)
                try dsimp only at hv56
                obtain ⟨s56_0, rfl, f56_0⟩ := hv56
                obtain ⟨A56_0, c56_0, eq56_0, l56_0, k56_0⟩ := f56_0.slice
                subst eq56_0
                simp only [maxLen] at k56_0
                refine VD.nil rfl ?_ rfl
                refine VO.y rfl (.ixa (i := 3) (o := 8) rfl rfl tar69 hi49 rfl rfl) ?_
                refine VO.store (k := 1) (c' := [Value.bool ((settleD d0 (min d1 ((d0.2.2.2.2.2.2.length : Nat) : Int)).toNat).1), Value.bool ((settleD d0 (min d1 ((d0.2.2.2.2.2.2.length : Nat) : Int)).toNat).2.1), Value.bool ((settleD d0 (min d1 ((d0.2.2.2.2.2.2.length : Nat) : Int)).toNat).2.2.1), Value.int .i64 ((settleD d0 (min d1 ((d0.2.2.2.2.2.2.length : Nat) : Int)).toNat).2.2.2.1), Value.int .i64 ((settleD d0 (min d1 ((d0.2.2.2.2.2.2.length : Nat) : Int)).toNat).2.2.2.2.1), Value.slice q38_A5 ((((settleD d0 (min d1 ((d0.2.2.2.2.2.2.length : Nat) : Int)).toNat).2.2.2.2.2.1).1).length) (q38_c5), Value.slice q38_A6 ((((settleD d0 (min d1 ((d0.2.2.2.2.2.2.length : Nat) : Int)).toNat).2.2.2.2.2.1).2.1).length) (q38_c6), Value.slice q38_A7 ((((settleD d0 (min d1 ((d0.2.2.2.2.2.2.length : Nat) : Int)).toNat).2.2.2.2.2.1).2.2.1).length) (q38_c7), Value.slice A56_0 ((doneB (((settleD d0 (min d1 ((d0.2.2.2.2.2.2.length : Nat) : Int)).toNat).2.2.2.2.2.1).2.2.2) (x45.1, x45.2.1, (x45.2.2.1).take ((min d2 (((x45.2.2.1.length : Nat) : Int) - 1)).toNat), x45.2.2.2)).length) (c56_0), Value.slice (some ⟨gg45, oo45, none⟩) (((settleD d0 (min d1 ((d0.2.2.2.2.2.2.length : Nat) : Int)).toNat).2.2.2.2.2.2).length) (q38_c9)]) 144 rfl rfl (.inr ⟨tk25, rfl⟩) rfl rfl rfl rfl rfl ?_
                refine VO.k8 0 1 2 6 7 8 11 49 ?_
                refine outN ?_
                refine VC.rs ?_
                refine VO.mv ?_
                refine VO.mv ?_
                refine VO.mv ?_
                refine VO.mv ?_
                refine VO.y rfl (.nilp rfl) ?_
                refine VO.y rfl (.fa rfl tst72 rfl) ?_
                refine VO.store (k := 1) (c' := [Value.bool ((settleD d0 (min d1 ((d0.2.2.2.2.2.2.length : Nat) : Int)).toNat).1), Value.bool ((settleD d0 (min d1 ((d0.2.2.2.2.2.2.length : Nat) : Int)).toNat).2.1), Value.bool ((settleD d0 (min d1 ((d0.2.2.2.2.2.2.length : Nat) : Int)).toNat).2.2.1), Value.int .i64 ((settleD d0 (min d1 ((d0.2.2.2.2.2.2.length : Nat) : Int)).toNat).2.2.2.1), Value.int .i64 ((settleD d0 (min d1 ((d0.2.2.2.2.2.2.length : Nat) : Int)).toNat).2.2.2.2.1), Value.slice q38_A5 ((((settleD d0 (min d1 ((d0.2.2.2.2.2.2.length : Nat) : Int)).toNat).2.2.2.2.2.1).1).length) (q38_c5), Value.slice q38_A6 ((((settleD d0 (min d1 ((d0.2.2.2.2.2.2.length : Nat) : Int)).toNat).2.2.2.2.2.1).2.1).length) (q38_c6), Value.slice q38_A7 ((((settleD d0 (min d1 ((d0.2.2.2.2.2.2.length : Nat) : Int)).toNat).2.2.2.2.2.1).2.2.1).length) (q38_c7), Value.slice A56_0 ((doneB (((settleD d0 (min d1 ((d0.2.2.2.2.2.2.length : Nat) : Int)).toNat).2.2.2.2.2.1).2.2.2) (x45.1, x45.2.1, (x45.2.2.1).take ((min d2 (((x45.2.2.1.length : Nat) : Int) - 1)).toNat), x45.2.2.2)).length) (c56_0), Value.slice none (0) (0)]) 144 rfl rfl (.inr ⟨tk70, rfl⟩) rfl rfl rfl rfl rfl ?_
                refine VO.y rfl (.nilp rfl) ?_
                refine VO.y rfl (.fa rfl tst72 rfl) ?_
                refine VO.store (k := 1) (c' := [Value.bool ((settleD d0 (min d1 ((d0.2.2.2.2.2.2.length : Nat) : Int)).toNat).1), Value.bool false, Value.bool ((settleD d0 (min d1 ((d0.2.2.2.2.2.2.length : Nat) : Int)).toNat).2.2.1), Value.int .i64 ((settleD d0 (min d1 ((d0.2.2.2.2.2.2.length : Nat) : Int)).toNat).2.2.2.1), Value.int .i64 ((settleD d0 (min d1 ((d0.2.2.2.2.2.2.length : Nat) : Int)).toNat).2.2.2.2.1), Value.slice q38_A5 ((((settleD d0 (min d1 ((d0.2.2.2.2.2.2.length : Nat) : Int)).toNat).2.2.2.2.2.1).1).length) (q38_c5), Value.slice q38_A6 ((((settleD d0 (min d1 ((d0.2.2.2.2.2.2.length : Nat) : Int)).toNat).2.2.2.2.2.1).2.1).length) (q38_c6), Value.slice q38_A7 ((((settleD d0 (min d1 ((d0.2.2.2.2.2.2.length : Nat) : Int)).toNat).2.2.2.2.2.1).2.2.1).length) (q38_c7), Value.slice A56_0 ((doneB (((settleD d0 (min d1 ((d0.2.2.2.2.2.2.length : Nat) : Int)).toNat).2.2.2.2.2.1).2.2.2) (x45.1, x45.2.1, (x45.2.2.1).take ((min d2 (((x45.2.2.1.length : Nat) : Int) - 1)).toNat), x45.2.2.2)).length) (c56_0), Value.slice none (0) (0)]) 144 rfl rfl (.inr ⟨tk4, rfl⟩) rfl rfl rfl rfl rfl ?_
                refine VO.y rfl (.nilp rfl) ?_
                refine VO.y rfl (.fa rfl tst72 rfl) ?_
                refine VO.store (k := 1) (c' := [Value.bool ((settleD d0 (min d1 ((d0.2.2.2.2.2.2.length : Nat) : Int)).toNat).1), Value.bool false, Value.bool false, Value.int .i64 ((settleD d0 (min d1 ((d0.2.2.2.2.2.2.length : Nat) : Int)).toNat).2.2.2.1), Value.int .i64 ((settleD d0 (min d1 ((d0.2.2.2.2.2.2.length : Nat) : Int)).toNat).2.2.2.2.1), Value.slice q38_A5 ((((settleD d0 (min d1 ((d0.2.2.2.2.2.2.length : Nat) : Int)).toNat).2.2.2.2.2.1).1).length) (q38_c5), Value.slice q38_A6 ((((settleD d0 (min d1 ((d0.2.2.2.2.2.2.length : Nat) : Int)).toNat).2.2.2.2.2.1).2.1).length) (q38_c6), Value.slice q38_A7 ((((settleD d0 (min d1 ((d0.2.2.2.2.2.2.length : Nat) : Int)).toNat).2.2.2.2.2.1).2.2.1).length) (q38_c7), Value.slice A56_0 ((doneB (((settleD d0 (min d1 ((d0.2.2.2.2.2.2.length : Nat) : Int)).toNat).2.2.2.2.2.1).2.2.2) (x45.1, x45.2.1, (x45.2.2.1).take ((min d2 (((x45.2.2.1.length : Nat) : Int) - 1)).toNat), x45.2.2.2)).length) (c56_0), Value.slice none (0) (0)]) 144 rfl rfl (.inr ⟨tk4, rfl⟩) rfl rfl rfl rfl rfl ?_
                refine VO.y rfl (.nilp rfl) ?_
                refine VO.y rfl (.fa rfl tst72 rfl) ?_
                refine VO.store (k := 1) (c' := [Value.bool ((settleD d0 (min d1 ((d0.2.2.2.2.2.2.length : Nat) : Int)).toNat).1), Value.bool false, Value.bool false, Value.int .i64 (0), Value.int .i64 ((settleD d0 (min d1 ((d0.2.2.2.2.2.2.length : Nat) : Int)).toNat).2.2.2.2.1), Value.slice q38_A5 ((((settleD d0 (min d1 ((d0.2.2.2.2.2.2.length : Nat) : Int)).toNat).2.2.2.2.2.1).1).length) (q38_c5), Value.slice q38_A6 ((((settleD d0 (min d1 ((d0.2.2.2.2.2.2.length : Nat) : Int)).toNat).2.2.2.2.2.1).2.1).length) (q38_c6), Value.slice q38_A7 ((((settleD d0 (min d1 ((d0.2.2.2.2.2.2.length : Nat) : Int)).toNat).2.2.2.2.2.1).2.2.1).length) (q38_c7), Value.slice A56_0 ((doneB (((settleD d0 (min d1 ((d0.2.2.2.2.2.2.length : Nat) : Int)).toNat).2.2.2.2.2.1).2.2.2) (x45.1, x45.2.1, (x45.2.2.1).take ((min d2 (((x45.2.2.1.length : Nat) : Int) - 1)).toNat), x45.2.2.2)).length) (c56_0), Value.slice none (0) (0)]) 144 rfl rfl (.inr ⟨tk3, rfl⟩) rfl rfl rfl rfl rfl ?_
                refine VO.gather (l := [mone g0 (.cells [Value.bool ((settleD d0 (min d1 ((d0.2.2.2.2.2.2.length : Nat) : Int)).toNat).1), Value.bool false, Value.bool false, Value.int .i64 (0), Value.int .i64 ((settleD d0 (min d1 ((d0.2.2.2.2.2.2.length : Nat) : Int)).toNat).2.2.2.2.1), Value.slice q38_A5 ((((settleD d0 (min d1 ((d0.2.2.2.2.2.2.length : Nat) : Int)).toNat).2.2.2.2.2.1).1).length) (q38_c5), Value.slice q38_A6 ((((settleD d0 (min d1 ((d0.2.2.2.2.2.2.length : Nat) : Int)).toNat).2.2.2.2.2.1).2.1).length) (q38_c6), Value.slice q38_A7 ((((settleD d0 (min d1 ((d0.2.2.2.2.2.2.length : Nat) : Int)).toNat).2.2.2.2.2.1).2.2.1).length) (q38_c7), Value.slice A56_0 ((doneB (((settleD d0 (min d1 ((d0.2.2.2.2.2.2.length : Nat) : Int)).toNat).2.2.2.2.2.1).2.2.2) (x45.1, x45.2.1, (x45.2.2.1).take ((min d2 (((x45.2.2.1.length : Nat) : Int) - 1)).toNat), x45.2.2.2)).length) (c56_0), Value.slice none (0) (0)].toArray q38_E (0, 0)), q38_n5, q38_n6, q38_n7, m56]) 157 [144, 139, 140, 141, 142] rfl (fun hg57 => ?_)
                have ho57 : Ow (.ptr TdiskDisk) (muns [mone g0 (.cells [Value.bool ((settleD d0 (min d1 ((d0.2.2.2.2.2.2.length : Nat) : Int)).toNat).1), Value.bool false, Value.bool false, Value.int .i64 (0), Value.int .i64 ((settleD d0 (min d1 ((d0.2.2.2.2.2.2.length : Nat) : Int)).toNat).2.2.2.2.1), Value.slice q38_A5 ((((settleD d0 (min d1 ((d0.2.2.2.2.2.2.length : Nat) : Int)).toNat).2.2.2.2.2.1).1).length) (q38_c5), Value.slice q38_A6 ((((settleD d0 (min d1 ((d0.2.2.2.2.2.2.length : Nat) : Int)).toNat).2.2.2.2.2.1).2.1).length) (q38_c6), Value.slice q38_A7 ((((settleD d0 (min d1 ((d0.2.2.2.2.2.2.length : Nat) : Int)).toNat).2.2.2.2.2.1).2.2.1).length) (q38_c7), Value.slice A56_0 ((doneB (((settleD d0 (min d1 ((d0.2.2.2.2.2.2.length : Nat) : Int)).toNat).2.2.2.2.2.1).2.2.2) (x45.1, x45.2.1, (x45.2.2.1).take ((min d2 (((x45.2.2.1.length : Nat) : Int) - 1)).toNat), x45.2.2.2)).length) (c56_0), Value.slice none (0) (0)].toArray q38_E (0, 0)), q38_n5, q38_n6, q38_n7, m56]) [.pointer (some ⟨g0, 0, none⟩)] (g0, ((settleD d0 (min d1 ((d0.2.2.2.2.2.2.length : Nat) : Int)).toNat).1, false, false, 0, (settleD d0 (min d1 ((d0.2.2.2.2.2.2.length : Nat) : Int)).toNat).2.2.2.2.1, (((settleD d0 (min d1 ((d0.2.2.2.2.2.2.length : Nat) : Int)).toNat).2.2.2.2.2.1).1, ((settleD d0 (min d1 ((d0.2.2.2.2.2.2.length : Nat) : Int)).toNat).2.2.2.2.2.1).2.1, ((settleD d0 (min d1 ((d0.2.2.2.2.2.2.length : Nat) : Int)).toNat).2.2.2.2.2.1).2.2.1, doneB (((settleD d0 (min d1 ((d0.2.2.2.2.2.2.length : Nat) : Int)).toNat).2.2.2.2.2.1).2.2.2) (x45.1, x45.2.1, (x45.2.2.1).take ((min d2 (((x45.2.2.1.length : Nat) : Int) - 1)).toNat), x45.2.2.2)), [])) := (mkP_diskDisk ((settleD d0 (min d1 ((d0.2.2.2.2.2.2.length : Nat) : Int)).toNat).1) false false 0 ((settleD d0 (min d1 ((d0.2.2.2.2.2.2.length : Nat) : Int)).toNat).2.2.2.2.1) (((settleD d0 (min d1 ((d0.2.2.2.2.2.2.length : Nat) : Int)).toNat).2.2.2.2.2.1).1) (((settleD d0 (min d1 ((d0.2.2.2.2.2.2.length : Nat) : Int)).toNat).2.2.2.2.2.1).2.1) (((settleD d0 (min d1 ((d0.2.2.2.2.2.2.length : Nat) : Int)).toNat).2.2.2.2.2.1).2.2.1) (doneB (((settleD d0 (min d1 ((d0.2.2.2.2.2.2.length : Nat) : Int)).toNat).2.2.2.2.2.1).2.2.2) (x45.1, x45.2.1, (x45.2.2.1).take ((min d2 (((x45.2.2.1.length : Nat) : Int) - 1)).toNat), x45.2.2.2)) [] (Seps.nilAt 5 hg57) (by simp only [inK]; (first | omega | (simp only [List.length_append, List.length_nil, List.length_cons, List.length_take, List.length_drop] at *; omega) | (have h_ := start_good (by assumption) ‹_[0]? = some _›; simp only [inF] at h_; omega))) (by simp only [inK]; (first | omega | (simp only [List.length_append, List.length_nil, List.length_cons, List.length_take, List.length_drop] at *; omega) | (have h_ := start_good (by assumption) ‹_[0]? = some _›; simp only [inF] at h_; omega))) (OwnL.ow (Ow.ownl q38_5 rfl mnil) rfl) (OwnL.ow (Ow.ownl q38_6 rfl mnil) rfl) (OwnL.ow (Ow.ownl q38_7 rfl mnil) rfl) (OwnL.ow (Ow.ownl f56_0 rfl mnil) rfl) (Ow.nil _ _))
                refine VO.keep [157, 147, 143, 0] [(157, muns [mone g0 (.cells [Value.bool ((settleD d0 (min d1 ((d0.2.2.2.2.2.2.length : Nat) : Int)).toNat).1), Value.bool false, Value.bool false, Value.int .i64 (0), Value.int .i64 ((settleD d0 (min d1 ((d0.2.2.2.2.2.2.length : Nat) : Int)).toNat).2.2.2.2.1), Value.slice q38_A5 ((((settleD d0 (min d1 ((d0.2.2.2.2.2.2.length : Nat) : Int)).toNat).2.2.2.2.2.1).1).length) (q38_c5), Value.slice q38_A6 ((((settleD d0 (min d1 ((d0.2.2.2.2.2.2.length : Nat) : Int)).toNat).2.2.2.2.2.1).2.1).length) (q38_c6), Value.slice q38_A7 ((((settleD d0 (min d1 ((d0.2.2.2.2.2.2.length : Nat) : Int)).toNat).2.2.2.2.2.1).2.2.1).length) (q38_c7), Value.slice A56_0 ((doneB (((settleD d0 (min d1 ((d0.2.2.2.2.2.2.length : Nat) : Int)).toNat).2.2.2.2.2.1).2.2.2) (x45.1, x45.2.1, (x45.2.2.1).take ((min d2 (((x45.2.2.1.length : Nat) : Int) - 1)).toNat), x45.2.2.2)).length) (c56_0), Value.slice none (0) (0)].toArray q38_E (0, 0)), q38_n5, q38_n6, q38_n7, m56]), (147, mone g46 (.cells [Value.int .i64 (x45.1), Value.int .i64 (x45.2.1), Value.slice q45_A2 ((min d2 (((x45.2.2.1.length : Nat) : Int) - 1)).toNat) (q45_c2), Value.int .i64 (x45.2.2.2)].toArray 101 (0, 0))), (143, q38_n9), (0, mout (wm W) (m0))] (by kernel_rfl) ?_
                refine VO.k8 0 1 2 6 7 8 11 49 ?_
                refine VC.rs ?_
                refine VO.as ?_
                refine VO.k8 0 1 2 6 7 8 11 49 ?_
                refine VC.ret ?_
                refine ⟨_, _, res_run (rs := [.tmp 6]) rfl (.tmp rfl .nil), fun W_ hI => out_of (l := [muns [mone g0 (.cells [Value.bool ((settleD d0 (min d1 ((d0.2.2.2.2.2.2.length : Nat) : Int)).toNat).1), Value.bool false, Value.bool false, Value.int .i64 (0), Value.int .i64 ((settleD d0 (min d1 ((d0.2.2.2.2.2.2.length : Nat) : Int)).toNat).2.2.2.2.1), Value.slice q38_A5 ((((settleD d0 (min d1 ((d0.2.2.2.2.2.2.length : Nat) : Int)).toNat).2.2.2.2.2.1).1).length) (q38_c5), Value.slice q38_A6 ((((settleD d0 (min d1 ((d0.2.2.2.2.2.2.length : Nat) : Int)).toNat).2.2.2.2.2.1).2.1).length) (q38_c6), Value.slice q38_A7 ((((settleD d0 (min d1 ((d0.2.2.2.2.2.2.length : Nat) : Int)).toNat).2.2.2.2.2.1).2.2.1).length) (q38_c7), Value.slice A56_0 ((doneB (((settleD d0 (min d1 ((d0.2.2.2.2.2.2.length : Nat) : Int)).toNat).2.2.2.2.2.1).2.2.2) (x45.1, x45.2.1, (x45.2.2.1).take ((min d2 (((x45.2.2.1.length : Nat) : Int) - 1)).toNat), x45.2.2.2)).length) (c56_0), Value.slice none (0) (0)].toArray q38_E (0, 0)), q38_n5, q38_n6, q38_n7, m56]]) hI [157] rfl rfl (mle_refl _) (fun hS_ => ?_)⟩
                dsimp only [packV]
                have hm0_ : ((dStart d0 d1 d2).1 : DdiskDisk) = ((settleD d0 (min d1 ((d0.2.2.2.2.2.2.length : Nat) : Int)).toNat).1, false, false, 0, (settleD d0 (min d1 ((d0.2.2.2.2.2.2.length : Nat) : Int)).toNat).2.2.2.2.1, (((settleD d0 (min d1 ((d0.2.2.2.2.2.2.length : Nat) : Int)).toNat).2.2.2.2.2.1).1, ((settleD d0 (min d1 ((d0.2.2.2.2.2.2.length : Nat) : Int)).toNat).2.2.2.2.2.1).2.1, ((settleD d0 (min d1 ((d0.2.2.2.2.2.2.length : Nat) : Int)).toNat).2.2.2.2.2.1).2.2.1, doneB (((settleD d0 (min d1 ((d0.2.2.2.2.2.2.length : Nat) : Int)).toNat).2.2.2.2.2.1).2.2.2) (x45.1, x45.2.1, (x45.2.2.1).take ((min d2 (((x45.2.2.1.length : Nat) : Int) - 1)).toNat), x45.2.2.2)), []) := by first | rfl | (first | (rw [start_bad1 (by assumption)] <;> rfl) | (rw [start_bad2 (by assumption) (.inl (by simpa using ‹_›))] <;> rfl) | (rw [start_bad2 (by assumption) (.inr (.inl (by assumption)))] <;> rfl) | (rw [start_bad2 (by assumption) (.inr (.inr (by assumption)))] <;> rfl) | (rw [start_go (by assumption) (by simpa using ‹_›) (by assumption) (by assumption), torn_nil (by omega)] <;> rfl) | (rw [start_go (by assumption) (by simpa using ‹_›) (by assumption) (by assumption), torn_no (by assumption) (by assumption)] <;> rfl) | (rw [start_go (by assumption) (by simpa using ‹_›) (by assumption) (by assumption), torn_yes (by assumption) (by assumption), stepQ, setQ0 ‹_ = (0 : Int)›, getF0 ‹_ = (0 : Int)›] <;> rfl) | (rw [start_go (by assumption) (by simpa using ‹_›) (by assumption) (by assumption), torn_yes (by assumption) (by assumption), stepQ, setQ1 ‹_ = (1 : Int)›, getF1 ‹_ = (1 : Int)›] <;> rfl) | (rw [start_go (by assumption) (by simpa using ‹_›) (by assumption) (by assumption), torn_yes (by assumption) (by assumption), stepQ, setQ2 ‹_ = (2 : Int)›, getF2 ‹_ = (2 : Int)›] <;> rfl) | (rw [start_go (by assumption) (by simpa using ‹_›) (by assumption) (by assumption), torn_yes (by assumption) (by assumption), stepQ, setQ3 ‹_ = (3 : Int)›, getF3 ‹_ = (3 : Int)›] <;> rfl))
                refine ⟨?_, ?_⟩
                rotate_left
                · rw [hm0_]; exact (Ow.up ho57 (hS_.1 _ (.head _)))
                all_goals (first | rfl | (first | (rw [start_bad1 (by assumption)] <;> rfl) | (rw [start_bad2 (by assumption) (.inl (by simpa using ‹_›))] <;> rfl) | (rw [start_bad2 (by assumption) (.inr (.inl (by assumption)))] <;> rfl) | (rw [start_bad2 (by assumption) (.inr (.inr (by assumption)))] <;> rfl) | (rw [start_go (by assumption) (by simpa using ‹_›) (by assumption) (by assumption), torn_nil (by omega)] <;> rfl) | (rw [start_go (by assumption) (by simpa using ‹_›) (by assumption) (by assumption), torn_no (by assumption) (by assumption)] <;> rfl) | (rw [start_go (by assumption) (by simpa using ‹_›) (by assumption) (by assumption), torn_yes (by assumption) (by assumption), stepQ, setQ0 ‹_ = (0 : Int)›, getF0 ‹_ = (0 : Int)›] <;> rfl) | (rw [start_go (by assumption) (by simpa using ‹_›) (by assumption) (by assumption), torn_yes (by assumption) (by assumption), stepQ, setQ1 ‹_ = (1 : Int)›, getF1 ‹_ = (1 : Int)›] <;> rfl) | (rw [start_go (by assumption) (by simpa using ‹_›) (by assumption) (by assumption), torn_yes (by assumption) (by assumption), stepQ, setQ2 ‹_ = (2 : Int)›, getF2 ‹_ = (2 : Int)›] <;> rfl) | (rw [start_go (by assumption) (by simpa using ‹_›) (by assumption) (by assumption), torn_yes (by assumption) (by assumption), stepQ, setQ3 ‹_ = (3 : Int)›, getF3 ‹_ = (3 : Int)›] <;> rfl)))
            · -- FFFFTF
              refine VC.skip ?_
              refine outN ?_
              refine VC.rs ?_
              refine VO.mv ?_
              refine VO.mv ?_
              refine VO.mv ?_
              refine VO.mv ?_
              refine VO.y rfl (.nilp rfl) ?_
              refine VO.y rfl (.fa rfl tst72 rfl) ?_
              obtain ⟨q58_E, q58_A5, q58_c5, q58_A6, q58_c6, q58_A7, q58_c7, q58_A8, q58_c8, q58_A9, q58_c9, q58_n5, q58_n6, q58_n7, q58_n8, q58_n9, _, q58_S, q58_3, q58_4, q58_5, q58_6, q58_7, q58_8, q58_9⟩ := openP_diskDisk (x0 := (settleD d0 (min d1 ((d0.2.2.2.2.2.2.length : Nat) : Int)).toNat).1) (x1 := (settleD d0 (min d1 ((d0.2.2.2.2.2.2.length : Nat) : Int)).toNat).2.1) (x2 := (settleD d0 (min d1 ((d0.2.2.2.2.2.2.length : Nat) : Int)).toNat).2.2.1) (x3 := (settleD d0 (min d1 ((d0.2.2.2.2.2.2.length : Nat) : Int)).toNat).2.2.2.1) (x4 := (settleD d0 (min d1 ((d0.2.2.2.2.2.2.length : Nat) : Int)).toNat).2.2.2.2.1) (x5 := ((settleD d0 (min d1 ((d0.2.2.2.2.2.2.length : Nat) : Int)).toNat).2.2.2.2.2.1).1) (x6 := ((settleD d0 (min d1 ((d0.2.2.2.2.2.2.length : Nat) : Int)).toNat).2.2.2.2.2.1).2.1) (x7 := ((settleD d0 (min d1 ((d0.2.2.2.2.2.2.length : Nat) : Int)).toNat).2.2.2.2.2.1).2.2.1) (x8 := ((settleD d0 (min d1 ((d0.2.2.2.2.2.2.length : Nat) : Int)).toNat).2.2.2.2.2.1).2.2.2) (x9 := (settleD d0 (min d1 ((d0.2.2.2.2.2.2.length : Nat) : Int)).toNat).2.2.2.2.2.2) ho36
              simp only [inK] at q58_3
              simp only [inK] at q58_4
              have q58_r5 := Rd.room (q58_5.rd (mle_refl _))
              have q58_r6 := Rd.room (q58_6.rd (mle_refl _))
              have q58_r7 := Rd.room (q58_7.rd (mle_refl _))
              have q58_r8 := Rd.room (q58_8.rd (mle_refl _))
              have q58_r9 := Rd.room (q58_9.rd (mle_refl _))
              refine VO.inv _ (fun _ h => h.parts (i := 136) rfl q58_S [164, 159, 160, 161, 162, 163]) ?_
              refine VO.store (k := 1) (c' := [Value.bool ((settleD d0 (min d1 ((d0.2.2.2.2.2.2.length : Nat) : Int)).toNat).1), Value.bool ((settleD d0 (min d1 ((d0.2.2.2.2.2.2.length : Nat) : Int)).toNat).2.1), Value.bool ((settleD d0 (min d1 ((d0.2.2.2.2.2.2.length : Nat) : Int)).toNat).2.2.1), Value.int .i64 ((settleD d0 (min d1 ((d0.2.2.2.2.2.2.length : Nat) : Int)).toNat).2.2.2.1), Value.int .i64 ((settleD d0 (min d1 ((d0.2.2.2.2.2.2.length : Nat) : Int)).toNat).2.2.2.2.1), Value.slice q58_A5 ((((settleD d0 (min d1 ((d0.2.2.2.2.2.2.length : Nat) : Int)).toNat).2.2.2.2.2.1).1).length) (q58_c5), Value.slice q58_A6 ((((settleD d0 (min d1 ((d0.2.2.2.2.2.2.length : Nat) : Int)).toNat).2.2.2.2.2.1).2.1).length) (q58_c6), Value.slice q58_A7 ((((settleD d0 (min d1 ((d0.2.2.2.2.2.2.length : Nat) : Int)).toNat).2.2.2.2.2.1).2.2.1).length) (q58_c7), Value.slice q58_A8 ((((settleD d0 (min d1 ((d0.2.2.2.2.2.2.length : Nat) : Int)).toNat).2.2.2.2.2.1).2.2.2).length) (q58_c8), Value.slice none (0) (0)]) 164 rfl rfl (.inr ⟨tk70, rfl⟩) rfl rfl rfl rfl rfl ?_
              refine VO.y rfl (.nilp rfl) ?_
              refine VO.y rfl (.fa rfl tst72 rfl) ?_
              refine VO.store (k := 1) (c' := [Value.bool ((settleD d0 (min d1 ((d0.2.2.2.2.2.2.length : Nat) : Int)).toNat).1), Value.bool false, Value.bool ((settleD d0 (min d1 ((d0.2.2.2.2.2.2.length : Nat) : Int)).toNat).2.2.1), Value.int .i64 ((settleD d0 (min d1 ((d0.2.2.2.2.2.2.length : Nat) : Int)).toNat).2.2.2.1), Value.int .i64 ((settleD d0 (min d1 ((d0.2.2.2.2.2.2.length : Nat) : Int)).toNat).2.2.2.2.1), Value.slice q58_A5 ((((settleD d0 (min d1 ((d0.2.2.2.2.2.2.length : Nat) : Int)).toNat).2.2.2.2.2.1).1).length) (q58_c5), Value.slice q58_A6 ((((settleD d0 (min d1 ((d0.2.2.2.2.2.2.length : Nat) : Int)).toNat).2.2.2.2.2.1).2.1).length) (q58_c6), Value.slice q58_A7 ((((settleD d0 (min d1 ((d0.2.2.2.2.2.2.length : Nat) : Int)).toNat).2.2.2.2.2.1).2.2.1).length) (q58_c7), Value.slice q58_A8 ((((settleD d0 (min d1 ((d0.2.2.2.2.2.2.length : Nat) : Int)).toNat).2.2.2.2.2.1).2.2.2).length) (q58_c8), Value.slice none (0) (0)]) 164 rfl rfl (.inr ⟨tk4, rfl⟩) rfl rfl rfl rfl rfl ?_
              refine VO.y rfl (.nilp rfl) ?_
              refine VO.y rfl (.fa rfl tst72 rfl) ?_
              refine VO.store (k := 1) (c' := [Value.bool ((settleD d0 (min d1 ((d0.2.2.2.2.2.2.length : Nat) : Int)).toNat).1), Value.bool false, Value.bool false, Value.int .i64 ((settleD d0 (min d1 ((d0.2.2.2.2.2.2.length : Nat) : Int)).toNat).2.2.2.1), Value.int .i64 ((settleD d0 (min d1 ((d0.2.2.2.2.2.2.length : Nat) : Int)).toNat).2.2.2.2.1), Value.slice q58_A5 ((((settleD d0 (min d1 ((d0.2.2.2.2.2.2.length : Nat) : Int)).toNat).2.2.2.2.2.1).1).length) (q58_c5), Value.slice q58_A6 ((((settleD d0 (min d1 ((d0.2.2.2.2.2.2.length : Nat) : Int)).toNat).2.2.2.2.2.1).2.1).length) (q58_c6), Value.slice q58_A7 ((((settleD d0 (min d1 ((d0.2.2.2.2.2.2.length : Nat) : Int)).toNat).2.2.2.2.2.1).2.2.1).length) (q58_c7), Value.slice q58_A8 ((((settleD d0 (min d1 ((d0.2.2.2.2.2.2.length : Nat) : Int)).toNat).2.2.2.2.2.1).2.2.2).length) (q58_c8), Value.slice none (0) (0)]) 164 rfl rfl (.inr ⟨tk4, rfl⟩) rfl rfl rfl rfl rfl ?_
              refine VO.y rfl (.nilp rfl) ?_
              refine VO.y rfl (.fa rfl tst72 rfl) ?_
              refine VO.store (k := 1) (c' := [Value.bool ((settleD d0 (min d1 ((d0.2.2.2.2.2.2.length : Nat) : Int)).toNat).1), Value.bool false, Value.bool false, Value.int .i64 (0), Value.int .i64 ((settleD d0 (min d1 ((d0.2.2.2.2.2.2.length : Nat) : Int)).toNat).2.2.2.2.1), Value.slice q58_A5 ((((settleD d0 (min d1 ((d0.2.2.2.2.2.2.length : Nat) : Int)).toNat).2.2.2.2.2.1).1).length) (q58_c5), Value.slice q58_A6 ((((settleD d0 (min d1 ((d0.2.2.2.2.2.2.length : Nat) : Int)).toNat).2.2.2.2.2.1).2.1).length) (q58_c6), Value.slice q58_A7 ((((settleD d0 (min d1 ((d0.2.2.2.2.2.2.length : Nat) : Int)).toNat).2.2.2.2.2.1).2.2.1).length) (q58_c7), Value.slice q58_A8 ((((settleD d0 (min d1 ((d0.2.2.2.2.2.2.length : Nat) : Int)).toNat).2.2.2.2.2.1).2.2.2).length) (q58_c8), Value.slice none (0) (0)]) 164 rfl rfl (.inr ⟨tk3, rfl⟩) rfl rfl rfl rfl rfl ?_
              refine VO.gather (l := [mone g0 (.cells [Value.bool ((settleD d0 (min d1 ((d0.2.2.2.2.2.2.length : Nat) : Int)).toNat).1), Value.bool false, Value.bool false, Value.int .i64 (0), Value.int .i64 ((settleD d0 (min d1 ((d0.2.2.2.2.2.2.length : Nat) : Int)).toNat).2.2.2.2.1), Value.slice q58_A5 ((((settleD d0 (min d1 ((d0.2.2.2.2.2.2.length : Nat) : Int)).toNat).2.2.2.2.2.1).1).length) (q58_c5), Value.slice q58_A6 ((((settleD d0 (min d1 ((d0.2.2.2.2.2.2.length : Nat) : Int)).toNat).2.2.2.2.2.1).2.1).length) (q58_c6), Value.slice q58_A7 ((((settleD d0 (min d1 ((d0.2.2.2.2.2.2.length : Nat) : Int)).toNat).2.2.2.2.2.1).2.2.1).length) (q58_c7), Value.slice q58_A8 ((((settleD d0 (min d1 ((d0.2.2.2.2.2.2.length : Nat) : Int)).toNat).2.2.2.2.2.1).2.2.2).length) (q58_c8), Value.slice none (0) (0)].toArray q58_E (0, 0)), q58_n5, q58_n6, q58_n7, q58_n8]) 165 [164, 159, 160, 161, 162] rfl (fun hg65 => ?_)
              have ho65 : Ow (.ptr TdiskDisk) (muns [mone g0 (.cells [Value.bool ((settleD d0 (min d1 ((d0.2.2.2.2.2.2.length : Nat) : Int)).toNat).1), Value.bool false, Value.bool false, Value.int .i64 (0), Value.int .i64 ((settleD d0 (min d1 ((d0.2.2.2.2.2.2.length : Nat) : Int)).toNat).2.2.2.2.1), Value.slice q58_A5 ((((settleD d0 (min d1 ((d0.2.2.2.2.2.2.length : Nat) : Int)).toNat).2.2.2.2.2.1).1).length) (q58_c5), Value.slice q58_A6 ((((settleD d0 (min d1 ((d0.2.2.2.2.2.2.length : Nat) : Int)).toNat).2.2.2.2.2.1).2.1).length) (q58_c6), Value.slice q58_A7 ((((settleD d0 (min d1 ((d0.2.2.2.2.2.2.length : Nat) : Int)).toNat).2.2.2.2.2.1).2.2.1).length) (q58_c7), Value.slice q58_A8 ((((settleD d0 (min d1 ((d0.2.2.2.2.2.2.length : Nat) : Int)).toNat).2.2.2.2.2.1).2.2.2).length) (q58_c8), Value.slice none (0) (0)].toArray q58_E (0, 0)), q58_n5, q58_n6, q58_n7, q58_n8]) [.pointer (some ⟨g0, 0, none⟩)] (g0, ((settleD d0 (min d1 ((d0.2.2.2.2.2.2.length : Nat) : Int)).toNat).1, false, false, 0, (settleD d0 (min d1 ((d0.2.2.2.2.2.2.length : Nat) : Int)).toNat).2.2.2.2.1, ((settleD d0 (min d1 ((d0.2.2.2.2.2.2.length : Nat) : Int)).toNat).2.2.2.2.2.1), [])) := (mkP_diskDisk ((settleD d0 (min d1 ((d0.2.2.2.2.2.2.length : Nat) : Int)).toNat).1) false false 0 ((settleD d0 (min d1 ((d0.2.2.2.2.2.2.length : Nat) : Int)).toNat).2.2.2.2.1) (((settleD d0 (min d1 ((d0.2.2.2.2.2.2.length : Nat) : Int)).toNat).2.2.2.2.2.1).1) (((settleD d0 (min d1 ((d0.2.2.2.2.2.2.length : Nat) : Int)).toNat).2.2.2.2.2.1).2.1) (((settleD d0 (min d1 ((d0.2.2.2.2.2.2.length : Nat) : Int)).toNat).2.2.2.2.2.1).2.2.1) (((settleD d0 (min d1 ((d0.2.2.2.2.2.2.length : Nat) : Int)).toNat).2.2.2.2.2.1).2.2.2) [] (Seps.nilAt 5 hg65) (by simp only [inK]; (first | omega | (simp only [List.length_append, List.length_nil, List.length_cons, List.length_take, List.length_drop] at *; omega) | (have h_ := start_good (by assumption) ‹_[0]? = some _›; simp only [inF] at h_; omega))) (by simp only [inK]; (first | omega | (simp only [List.length_append, List.length_nil, List.length_cons, List.length_take, List.length_drop] at *; omega) | (have h_ := start_good (by assumption) ‹_[0]? = some _›; simp only [inF] at h_; omega))) (OwnL.ow (Ow.ownl q58_5 rfl mnil) rfl) (OwnL.ow (Ow.ownl q58_6 rfl mnil) rfl) (OwnL.ow (Ow.ownl q58_7 rfl mnil) rfl) (OwnL.ow (Ow.ownl q58_8 rfl mnil) rfl) (Ow.nil _ _))
              refine VO.keep [165, 0] [(165, muns [mone g0 (.cells [Value.bool ((settleD d0 (min d1 ((d0.2.2.2.2.2.2.length : Nat) : Int)).toNat).1), Value.bool false, Value.bool false, Value.int .i64 (0), Value.int .i64 ((settleD d0 (min d1 ((d0.2.2.2.2.2.2.length : Nat) : Int)).toNat).2.2.2.2.1), Value.slice q58_A5 ((((settleD d0 (min d1 ((d0.2.2.2.2.2.2.length : Nat) : Int)).toNat).2.2.2.2.2.1).1).length) (q58_c5), Value.slice q58_A6 ((((settleD d0 (min d1 ((d0.2.2.2.2.2.2.length : Nat) : Int)).toNat).2.2.2.2.2.1).2.1).length) (q58_c6), Value.slice q58_A7 ((((settleD d0 (min d1 ((d0.2.2.2.2.2.2.length : Nat) : Int)).toNat).2.2.2.2.2.1).2.2.1).length) (q58_c7), Value.slice q58_A8 ((((settleD d0 (min d1 ((d0.2.2.2.2.2.2.length : Nat) : Int)).toNat).2.2.2.2.2.1).2.2.2).length) (q58_c8), Value.slice none (0) (0)].toArray q58_E (0, 0)), q58_n5, q58_n6, q58_n7, q58_n8]), (0, mout (wm W) (m0))] (by kernel_rfl) ?_
              refine VO.k7 0 1 2 6 8 11 49 ?_
              refine VC.rs ?_
              refine VO.as ?_
              refine VO.k7 0 1 2 6 8 11 49 ?_
              refine VC.ret ?_
              refine ⟨_, _, res_run (rs := [.tmp 6]) rfl (.tmp rfl .nil), fun W_ hI => out_of (l := [muns [mone g0 (.cells [Value.bool ((settleD d0 (min d1 ((d0.2.2.2.2.2.2.length : Nat) : Int)).toNat).1), Value.bool false, Value.bool false, Value.int .i64 (0), Value.int .i64 ((settleD d0 (min d1 ((d0.2.2.2.2.2.2.length : Nat) : Int)).toNat).2.2.2.2.1), Value.slice q58_A5 ((((settleD d0 (min d1 ((d0.2.2.2.2.2.2.length : Nat) : Int)).toNat).2.2.2.2.2.1).1).length) (q58_c5), Value.slice q58_A6 ((((settleD d0 (min d1 ((d0.2.2.2.2.2.2.length : Nat) : Int)).toNat).2.2.2.2.2.1).2.1).length) (q58_c6), Value.slice q58_A7 ((((settleD d0 (min d1 ((d0.2.2.2.2.2.2.length : Nat) : Int)).toNat).2.2.2.2.2.1).2.2.1).length) (q58_c7), Value.slice q58_A8 ((((settleD d0 (min d1 ((d0.2.2.2.2.2.2.length : Nat) : Int)).toNat).2.2.2.2.2.1).2.2.2).length) (q58_c8), Value.slice none (0) (0)].toArray q58_E (0, 0)), q58_n5, q58_n6, q58_n7, q58_n8]]) hI [165] rfl rfl (mle_refl _) (fun hS_ => ?_)⟩
              dsimp only [packV]
              have hm0_ : ((dStart d0 d1 d2).1 : DdiskDisk) = ((settleD d0 (min d1 ((d0.2.2.2.2.2.2.length : Nat) : Int)).toNat).1, false, false, 0, (settleD d0 (min d1 ((d0.2.2.2.2.2.2.length : Nat) : Int)).toNat).2.2.2.2.1, ((settleD d0 (min d1 ((d0.2.2.2.2.2.2.length : Nat) : Int)).toNat).2.2.2.2.2.1), []) := by first | rfl | (first | (rw [start_bad1 (by assumption)] <;> rfl) | (rw [start_bad2 (by assumption) (.inl (by simpa using ‹_›))] <;> rfl) | (rw [start_bad2 (by assumption) (.inr (.inl (by assumption)))] <;> rfl) | (rw [start_bad2 (by assumption) (.inr (.inr (by assumption)))] <;> rfl) | (rw [start_go (by assumption) (by simpa using ‹_›) (by assumption) (by assumption), torn_nil (by omega)] <;> rfl) | (rw [start_go (by assumption) (by simpa using ‹_›) (by assumption) (by assumption), torn_no (by assumption) (by assumption)] <;> rfl) | (rw [start_go (by assumption) (by simpa using ‹_›) (by assumption) (by assumption), torn_yes (by assumption) (by assumption), stepQ, setQ0 ‹_ = (0 : Int)›, getF0 ‹_ = (0 : Int)›] <;> rfl) | (rw [start_go (by assumption) (by simpa using ‹_›) (by assumption) (by assumption), torn_yes (by assumption) (by assumption), stepQ, setQ1 ‹_ = (1 : Int)›, getF1 ‹_ = (1 : Int)›] <;> rfl) | (rw [start_go (by assumption) (by simpa using ‹_›) (by assumption) (by assumption), torn_yes (by assumption) (by assumption), stepQ, setQ2 ‹_ = (2 : Int)›, getF2 ‹_ = (2 : Int)›] <;> rfl) | (rw [start_go (by assumption) (by simpa using ‹_›) (by assumption) (by assumption), torn_yes (by assumption) (by assumption), stepQ, setQ3 ‹_ = (3 : Int)›, getF3 ‹_ = (3 : Int)›] <;> rfl))
              refine ⟨?_, ?_⟩
              rotate_left
              · rw [hm0_]; exact (Ow.up ho65 (hS_.1 _ (.head _)))
              all_goals (first | rfl | (first | (rw [start_bad1 (by assumption)] <;> rfl) | (rw [start_bad2 (by assumption) (.inl (by simpa using ‹_›))] <;> rfl) | (rw [start_bad2 (by assumption) (.inr (.inl (by assumption)))] <;> rfl) | (rw [start_bad2 (by assumption) (.inr (.inr (by assumption)))] <;> rfl) | (rw [start_go (by assumption) (by simpa using ‹_›) (by assumption) (by assumption), torn_nil (by omega)] <;> rfl) | (rw [start_go (by assumption) (by simpa using ‹_›) (by assumption) (by assumption), torn_no (by assumption) (by assumption)] <;> rfl) | (rw [start_go (by assumption) (by simpa using ‹_›) (by assumption) (by assumption), torn_yes (by assumption) (by assumption), stepQ, setQ0 ‹_ = (0 : Int)›, getF0 ‹_ = (0 : Int)›] <;> rfl) | (rw [start_go (by assumption) (by simpa using ‹_›) (by assumption) (by assumption), torn_yes (by assumption) (by assumption), stepQ, setQ1 ‹_ = (1 : Int)›, getF1 ‹_ = (1 : Int)›] <;> rfl) | (rw [start_go (by assumption) (by simpa using ‹_›) (by assumption) (by assumption), torn_yes (by assumption) (by assumption), stepQ, setQ2 ‹_ = (2 : Int)›, getF2 ‹_ = (2 : Int)›] <;> rfl) | (rw [start_go (by assumption) (by simpa using ‹_›) (by assumption) (by assumption), torn_yes (by assumption) (by assumption), stepQ, setQ3 ‹_ = (3 : Int)›, getF3 ‹_ = (3 : Int)›] <;> rfl)))
          · -- FFFFF
            refine VO.gN ?_
            refine VO.gN ?_
            refine VO.gN ?_
            refine VO.gN ?_
            refine VO.gN ?_
            refine VO.gN ?_
            refine VO.gN ?_
            refine VO.gN ?_
            refine VO.y rfl (.pF rfl rfl) ?_
            refine VO.gather (l := [mone g0 (.cells [Value.bool ((settleD d0 (min d1 ((d0.2.2.2.2.2.2.length : Nat) : Int)).toNat).1), Value.bool ((settleD d0 (min d1 ((d0.2.2.2.2.2.2.length : Nat) : Int)).toNat).2.1), Value.bool ((settleD d0 (min d1 ((d0.2.2.2.2.2.2.length : Nat) : Int)).toNat).2.2.1), Value.int .i64 ((settleD d0 (min d1 ((d0.2.2.2.2.2.2.length : Nat) : Int)).toNat).2.2.2.1), Value.int .i64 ((settleD d0 (min d1 ((d0.2.2.2.2.2.2.length : Nat) : Int)).toNat).2.2.2.2.1), Value.slice q27_A5 ((((settleD d0 (min d1 ((d0.2.2.2.2.2.2.length : Nat) : Int)).toNat).2.2.2.2.2.1).1).length) (q27_c5), Value.slice q27_A6 ((((settleD d0 (min d1 ((d0.2.2.2.2.2.2.length : Nat) : Int)).toNat).2.2.2.2.2.1).2.1).length) (q27_c6), Value.slice q27_A7 ((((settleD d0 (min d1 ((d0.2.2.2.2.2.2.length : Nat) : Int)).toNat).2.2.2.2.2.1).2.2.1).length) (q27_c7), Value.slice q27_A8 ((((settleD d0 (min d1 ((d0.2.2.2.2.2.2.length : Nat) : Int)).toNat).2.2.2.2.2.1).2.2.2).length) (q27_c8), Value.slice q27_A9 (((settleD d0 (min d1 ((d0.2.2.2.2.2.2.length : Nat) : Int)).toNat).2.2.2.2.2.2).length) (q27_c9)].toArray q27_E (0, 0)), q27_n5, q27_n6, q27_n7, q27_n8, q27_n9]) 166 [133, 128, 129, 130, 131, 132] rfl (fun hg66 => ?_)
            have ho66 : Ow (.ptr TdiskDisk) (muns [mone g0 (.cells [Value.bool ((settleD d0 (min d1 ((d0.2.2.2.2.2.2.length : Nat) : Int)).toNat).1), Value.bool ((settleD d0 (min d1 ((d0.2.2.2.2.2.2.length : Nat) : Int)).toNat).2.1), Value.bool ((settleD d0 (min d1 ((d0.2.2.2.2.2.2.length : Nat) : Int)).toNat).2.2.1), Value.int .i64 ((settleD d0 (min d1 ((d0.2.2.2.2.2.2.length : Nat) : Int)).toNat).2.2.2.1), Value.int .i64 ((settleD d0 (min d1 ((d0.2.2.2.2.2.2.length : Nat) : Int)).toNat).2.2.2.2.1), Value.slice q27_A5 ((((settleD d0 (min d1 ((d0.2.2.2.2.2.2.length : Nat) : Int)).toNat).2.2.2.2.2.1).1).length) (q27_c5), Value.slice q27_A6 ((((settleD d0 (min d1 ((d0.2.2.2.2.2.2.length : Nat) : Int)).toNat).2.2.2.2.2.1).2.1).length) (q27_c6), Value.slice q27_A7 ((((settleD d0 (min d1 ((d0.2.2.2.2.2.2.length : Nat) : Int)).toNat).2.2.2.2.2.1).2.2.1).length) (q27_c7), Value.slice q27_A8 ((((settleD d0 (min d1 ((d0.2.2.2.2.2.2.length : Nat) : Int)).toNat).2.2.2.2.2.1).2.2.2).length) (q27_c8), Value.slice q27_A9 (((settleD d0 (min d1 ((d0.2.2.2.2.2.2.length : Nat) : Int)).toNat).2.2.2.2.2.2).length) (q27_c9)].toArray q27_E (0, 0)), q27_n5, q27_n6, q27_n7, q27_n8, q27_n9]) [.pointer (some ⟨g0, 0, none⟩)] (g0, (settleD d0 (min d1 ((d0.2.2.2.2.2.2.length : Nat) : Int)).toNat)) := (show Ow (.ptr TdiskDisk) _ _ (_, (settleD d0 (min d1 ((d0.2.2.2.2.2.2.length : Nat) : Int)).toNat)) from (mkP_diskDisk ((settleD d0 (min d1 ((d0.2.2.2.2.2.2.length : Nat) : Int)).toNat).1) ((settleD d0 (min d1 ((d0.2.2.2.2.2.2.length : Nat) : Int)).toNat).2.1) ((settleD d0 (min d1 ((d0.2.2.2.2.2.2.length : Nat) : Int)).toNat).2.2.1) ((settleD d0 (min d1 ((d0.2.2.2.2.2.2.length : Nat) : Int)).toNat).2.2.2.1) ((settleD d0 (min d1 ((d0.2.2.2.2.2.2.length : Nat) : Int)).toNat).2.2.2.2.1) (((settleD d0 (min d1 ((d0.2.2.2.2.2.2.length : Nat) : Int)).toNat).2.2.2.2.2.1).1) (((settleD d0 (min d1 ((d0.2.2.2.2.2.2.length : Nat) : Int)).toNat).2.2.2.2.2.1).2.1) (((settleD d0 (min d1 ((d0.2.2.2.2.2.2.length : Nat) : Int)).toNat).2.2.2.2.2.1).2.2.1) (((settleD d0 (min d1 ((d0.2.2.2.2.2.2.length : Nat) : Int)).toNat).2.2.2.2.2.1).2.2.2) ((settleD d0 (min d1 ((d0.2.2.2.2.2.2.length : Nat) : Int)).toNat).2.2.2.2.2.2) hg66 (by simp only [inK]; (first | omega | (simp only [List.length_append, List.length_nil, List.length_cons, List.length_take, List.length_drop] at *; omega) | (have h_ := start_good (by assumption) ‹_[0]? = some _›; simp only [inF] at h_; omega))) (by simp only [inK]; (first | omega | (simp only [List.length_append, List.length_nil, List.length_cons, List.length_take, List.length_drop] at *; omega) | (have h_ := start_good (by assumption) ‹_[0]? = some _›; simp only [inF] at h_; omega))) (OwnL.ow (Ow.ownl q27_5 rfl mnil) rfl) (OwnL.ow (Ow.ownl q27_6 rfl mnil) rfl) (OwnL.ow (Ow.ownl q27_7 rfl mnil) rfl) (OwnL.ow (Ow.ownl q27_8 rfl mnil) rfl) q27_9))
            refine VO.k7 0 1 2 6 8 11 49 ?_
            refine VC.condF rfl ?_
            refine VC.skip ?_
            refine outN ?_
            refine VC.rs ?_
            refine VO.mv ?_
            refine VO.mv ?_
            refine VO.mv ?_
            refine VO.mv ?_
            refine VO.y rfl (.nilp rfl) ?_
            refine VO.y rfl (.fa rfl tst72 rfl) ?_
            obtain ⟨q67_E, q67_A5, q67_c5, q67_A6, q67_c6, q67_A7, q67_c7, q67_A8, q67_c8, q67_A9, q67_c9, q67_n5, q67_n6, q67_n7, q67_n8, q67_n9, _, q67_S, q67_3, q67_4, q67_5, q67_6, q67_7, q67_8, q67_9⟩ := openP_diskDisk (x0 := (settleD d0 (min d1 ((d0.2.2.2.2.2.2.length : Nat) : Int)).toNat).1) (x1 := (settleD d0 (min d1 ((d0.2.2.2.2.2.2.length : Nat) : Int)).toNat).2.1) (x2 := (settleD d0 (min d1 ((d0.2.2.2.2.2.2.length : Nat) : Int)).toNat).2.2.1) (x3 := (settleD d0 (min d1 ((d0.2.2.2.2.2.2.length : Nat) : Int)).toNat).2.2.2.1) (x4 := (settleD d0 (min d1 ((d0.2.2.2.2.2.2.length : Nat) : Int)).toNat).2.2.2.2.1) (x5 := ((settleD d0 (min d1 ((d0.2.2.2.2.2.2.length : Nat) : Int)).toNat).2.2.2.2.2.1).1) (x6 := ((settleD d0 (min d1 ((d0.2.2.2.2.2.2.length : Nat) : Int)).toNat).2.2.2.2.2.1).2.1) (x7 := ((settleD d0 (min d1 ((d0.2.2.2.2.2.2.length : Nat) : Int)).toNat).2.2.2.2.2.1).2.2.1) (x8 := ((settleD d0 (min d1 ((d0.2.2.2.2.2.2.length : Nat) : Int)).toNat).2.2.2.2.2.1).2.2.2) (x9 := (settleD d0 (min d1 ((d0.2.2.2.2.2.2.length : Nat) : Int)).toNat).2.2.2.2.2.2) ho66
            simp only [inK] at q67_3
            simp only [inK] at q67_4
            have q67_r5 := Rd.room (q67_5.rd (mle_refl _))
            have q67_r6 := Rd.room (q67_6.rd (mle_refl _))
            have q67_r7 := Rd.room (q67_7.rd (mle_refl _))
            have q67_r8 := Rd.room (q67_8.rd (mle_refl _))
            have q67_r9 := Rd.room (q67_9.rd (mle_refl _))
            refine VO.inv _ (fun _ h => h.parts (i := 166) rfl q67_S [173, 168, 169, 170, 171, 172]) ?_
            refine VO.store (k := 1) (c' := [Value.bool ((settleD d0 (min d1 ((d0.2.2.2.2.2.2.length : Nat) : Int)).toNat).1), Value.bool ((settleD d0 (min d1 ((d0.2.2.2.2.2.2.length : Nat) : Int)).toNat).2.1), Value.bool ((settleD d0 (min d1 ((d0.2.2.2.2.2.2.length : Nat) : Int)).toNat).2.2.1), Value.int .i64 ((settleD d0 (min d1 ((d0.2.2.2.2.2.2.length : Nat) : Int)).toNat).2.2.2.1), Value.int .i64 ((settleD d0 (min d1 ((d0.2.2.2.2.2.2.length : Nat) : Int)).toNat).2.2.2.2.1), Value.slice q67_A5 ((((settleD d0 (min d1 ((d0.2.2.2.2.2.2.length : Nat) : Int)).toNat).2.2.2.2.2.1).1).length) (q67_c5), Value.slice q67_A6 ((((settleD d0 (min d1 ((d0.2.2.2.2.2.2.length : Nat) : Int)).toNat).2.2.2.2.2.1).2.1).length) (q67_c6), Value.slice q67_A7 ((((settleD d0 (min d1 ((d0.2.2.2.2.2.2.length : Nat) : Int)).toNat).2.2.2.2.2.1).2.2.1).length) (q67_c7), Value.slice q67_A8 ((((settleD d0 (min d1 ((d0.2.2.2.2.2.2.length : Nat) : Int)).toNat).2.2.2.2.2.1).2.2.2).length) (q67_c8), Value.slice none (0) (0)]) 173 rfl rfl (.inr ⟨tk70, rfl⟩) rfl rfl rfl rfl rfl ?_
            refine VO.y rfl (.nilp rfl) ?_
            refine VO.y rfl (.fa rfl tst72 rfl) ?_
            refine VO.store (k := 1) (c' := [Value.bool ((settleD d0 (min d1 ((d0.2.2.2.2.2.2.length : Nat) : Int)).toNat).1), Value.bool false, Value.bool ((settleD d0 (min d1 ((d0.2.2.2.2.2.2.length : Nat) : Int)).toNat).2.2.1), Value.int .i64 ((settleD d0 (min d1 ((d0.2.2.2.2.2.2.length : Nat) : Int)).toNat).2.2.2.1), Value.int .i64 ((settleD d0 (min d1 ((d0.2.2.2.2.2.2.length : Nat) : Int)).toNat).2.2.2.2.1), Value.slice q67_A5 ((((settleD d0 (min d1 ((d0.2.2.2.2.2.2.length : Nat) : Int)).toNat).2.2.2.2.2.1).1).length) (q67_c5), Value.slice q67_A6 ((((settleD d0 (min d1 ((d0.2.2.2.2.2.2.length : Nat) : Int)).toNat).2.2.2.2.2.1).2.1).length) (q67_c6), Value.slice q67_A7 ((((settleD d0 (min d1 ((d0.2.2.2.2.2.2.length : Nat) : Int)).toNat).2.2.2.2.2.1).2.2.1).length) (q67_c7), Value.slice q67_A8 ((((settleD d0 (min d1 ((d0.2.2.2.2.2.2.length : Nat) : Int)).toNat).2.2.2.2.2.1).2.2.2).length) (q67_c8), Value.slice none (0) (0)]) 173 rfl rfl (.inr ⟨tk4, rfl⟩) rfl rfl rfl rfl rfl ?_
            refine VO.y rfl (.nilp rfl) ?_
            refine VO.y rfl (.fa rfl tst72 rfl) ?_
            refine VO.store (k := 1) (c' := [Value.bool ((settleD d0 (min d1 ((d0.2.2.2.2.2.2.length : Nat) : Int)).toNat).1), Value.bool false, Value.bool false, Value.int .i64 ((settleD d0 (min d1 ((d0.2.2.2.2.2.2.length : Nat) : Int)).toNat).2.2.2.1), Value.int .i64 ((settleD d0 (min d1 ((d0.2.2.2.2.2.2.length : Nat) : Int)).toNat).2.2.2.2.1), Value.slice q67_A5 ((((settleD d0 (min d1 ((d0.2.2.2.2.2.2.length : Nat) : Int)).toNat).2.2.2.2.2.1).1).length) (q67_c5), Value.slice q67_A6 ((((settleD d0 (min d1 ((d0.2.2.2.2.2.2.length : Nat) : Int)).toNat).2.2.2.2.2.1).2.1).length) (q67_c6), Value.slice q67_A7 ((((settleD d0 (min d1 ((d0.2.2.2.2.2.2.length : Nat) : Int)).toNat).2.2.2.2.2.1).2.2.1).length) (q67_c7), Value.slice q67_A8 ((((settleD d0 (min d1 ((d0.2.2.2.2.2.2.length : Nat) : Int)).toNat).2.2.2.2.2.1).2.2.2).length) (q67_c8), Value.slice none (0) (0)]) 173 rfl rfl (.inr ⟨tk4, rfl⟩) rfl rfl rfl rfl rfl ?_
            refine VO.y rfl (.nilp rfl) ?_
            refine VO.y rfl (.fa rfl tst72 rfl) ?_
            refine VO.store (k := 1) (c' := [Value.bool ((settleD d0 (min d1 ((d0.2.2.2.2.2.2.length : Nat) : Int)).toNat).1), Value.bool false, Value.bool false, Value.int .i64 (0), Value.int .i64 ((settleD d0 (min d1 ((d0.2.2.2.2.2.2.length : Nat) : Int)).toNat).2.2.2.2.1), Value.slice q67_A5 ((((settleD d0 (min d1 ((d0.2.2.2.2.2.2.length : Nat) : Int)).toNat).2.2.2.2.2.1).1).length) (q67_c5), Value.slice q67_A6 ((((settleD d0 (min d1 ((d0.2.2.2.2.2.2.length : Nat) : Int)).toNat).2.2.2.2.2.1).2.1).length) (q67_c6), Value.slice q67_A7 ((((settleD d0 (min d1 ((d0.2.2.2.2.2.2.length : Nat) : Int)).toNat).2.2.2.2.2.1).2.2.1).length) (q67_c7), Value.slice q67_A8 ((((settleD d0 (min d1 ((d0.2.2.2.2.2.2.length : Nat) : Int)).toNat).2.2.2.2.2.1).2.2.2).length) (q67_c8), Value.slice none (0) (0)]) 173 rfl rfl (.inr ⟨tk3, rfl⟩) rfl rfl rfl rfl rfl ?_
            refine VO.gather (l := [mone g0 (.cells [Value.bool ((settleD d0 (min d1 ((d0.2.2.2.2.2.2.length : Nat) : Int)).toNat).1), Value.bool false, Value.bool false, Value.int .i64 (0), Value.int .i64 ((settleD d0 (min d1 ((d0.2.2.2.2.2.2.length : Nat) : Int)).toNat).2.2.2.2.1), Value.slice q67_A5 ((((settleD d0 (min d1 ((d0.2.2.2.2.2.2.length : Nat) : Int)).toNat).2.2.2.2.2.1).1).length) (q67_c5), Value.slice q67_A6 ((((settleD d0 (min d1 ((d0.2.2.2.2.2.2.length : Nat) : Int)).toNat).2.2.2.2.2.1).2.1).length) (q67_c6), Value.slice q67_A7 ((((settleD d0 (min d1 ((d0.2.2.2.2.2.2.length : Nat) : Int)).toNat).2.2.2.2.2.1).2.2.1).length) (q67_c7), Value.slice q67_A8 ((((settleD d0 (min d1 ((d0.2.2.2.2.2.2.length : Nat) : Int)).toNat).2.2.2.2.2.1).2.2.2).length) (q67_c8), Value.slice none (0) (0)].toArray q67_E (0, 0)), q67_n5, q67_n6, q67_n7, q67_n8]) 174 [173, 168, 169, 170, 171] rfl (fun hg74 => ?_)
            have ho74 : Ow (.ptr TdiskDisk) (muns [mone g0 (.cells [Value.bool ((settleD d0 (min d1 ((d0.2.2.2.2.2.2.length : Nat) : Int)).toNat).1), Value.bool false, Value.bool false, Value.int .i64 (0), Value.int .i64 ((settleD d0 (min d1 ((d0.2.2.2.2.2.2.length : Nat) : Int)).toNat).2.2.2.2.1), Value.slice q67_A5 ((((settleD d0 (min d1 ((d0.2.2.2.2.2.2.length : Nat) : Int)).toNat).2.2.2.2.2.1).1).length) (q67_c5), Value.slice q67_A6 ((((settleD d0 (min d1 ((d0.2.2.2.2.2.2.length : Nat) : Int)).toNat).2.2.2.2.2.1).2.1).length) (q67_c6), Value.slice q67_A7 ((((settleD d0 (min d1 ((d0.2.2.2.2.2.2.length : Nat) : Int)).toNat).2.2.2.2.2.1).2.2.1).length) (q67_c7), Value.slice q67_A8 ((((settleD d0 (min d1 ((d0.2.2.2.2.2.2.length : Nat) : Int)).toNat).2.2.2.2.2.1).2.2.2).length) (q67_c8), Value.slice none (0) (0)].toArray q67_E (0, 0)), q67_n5, q67_n6, q67_n7, q67_n8]) [.pointer (some ⟨g0, 0, none⟩)] (g0, ((settleD d0 (min d1 ((d0.2.2.2.2.2.2.length : Nat) : Int)).toNat).1, false, false, 0, (settleD d0 (min d1 ((d0.2.2.2.2.2.2.length : Nat) : Int)).toNat).2.2.2.2.1, ((settleD d0 (min d1 ((d0.2.2.2.2.2.2.length : Nat) : Int)).toNat).2.2.2.2.2.1), [])) := (mkP_diskDisk ((settleD d0 (min d1 ((d0.2.2.2.2.2.2.length : Nat) : Int)).toNat).1) false false 0 ((settleD d0 (min d1 ((d0.2.2.2.2.2.2.length : Nat) : Int)).toNat).2.2.2.2.1) (((settleD d0 (min d1 ((d0.2.2.2.2.2.2.length : Nat) : Int)).toNat).2.2.2.2.2.1).1) (((settleD d0 (min d1 ((d0.2.2.2.2.2.2.length : Nat) : Int)).toNat).2.2.2.2.2.1).2.1) (((settleD d0 (min d1 ((d0.2.2.2.2.2.2.length : Nat) : Int)).toNat).2.2.2.2.2.1).2.2.1) (((settleD d0 (min d1 ((d0.2.2.2.2.2.2.length : Nat) : Int)).toNat).2.2.2.2.2.1).2.2.2) [] (Seps.nilAt 5 hg74) (by simp only [inK]; (first | omega | (simp only [List.length_append, List.length_nil, List.length_cons, List.length_take, List.length_drop] at *; omega) | (have h_ := start_good (by assumption) ‹_[0]? = some _›; simp only [inF] at h_; omega))) (by simp only [inK]; (first | omega | (simp only [List.length_append, List.length_nil, List.length_cons, List.length_take, List.length_drop] at *; omega) | (have h_ := start_good (by assumption) ‹_[0]? = some _›; simp only [inF] at h_; omega))) (OwnL.ow (Ow.ownl q67_5 rfl mnil) rfl) (OwnL.ow (Ow.ownl q67_6 rfl mnil) rfl) (OwnL.ow (Ow.ownl q67_7 rfl mnil) rfl) (OwnL.ow (Ow.ownl q67_8 rfl mnil) rfl) (Ow.nil _ _))
            refine VO.keep [174, 0] [(174, muns [mone g0 (.cells [Value.bool ((settleD d0 (min d1 ((d0.2.2.2.2.2.2.length : Nat) : Int)).toNat).1), Value.bool false, Value.bool false, Value.int .i64 (0), Value.int .i64 ((settleD d0 (min d1 ((d0.2.2.2.2.2.2.length : Nat) : Int)).toNat).2.2.2.2.1), Value.slice q67_A5 ((((settleD d0 (min d1 ((d0.2.2.2.2.2.2.length : Nat) : Int)).toNat).2.2.2.2.2.1).1).length) (q67_c5), Value.slice q67_A6 ((((settleD d0 (min d1 ((d0.2.2.2.2.2.2.length : Nat) : Int)).toNat).2.2.2.2.2.1).2.1).length) (q67_c6), Value.slice q67_A7 ((((settleD d0 (min d1 ((d0.2.2.2.2.2.2.length : Nat) : Int)).toNat).2.2.2.2.2.1).2.2.1).length) (q67_c7), Value.slice q67_A8 ((((settleD d0 (min d1 ((d0.2.2.2.2.2.2.length : Nat) : Int)).toNat).2.2.2.2.2.1).2.2.2).length) (q67_c8), Value.slice none (0) (0)].toArray q67_E (0, 0)), q67_n5, q67_n6, q67_n7, q67_n8]), (0, mout (wm W) (m0))] (by kernel_rfl) ?_
            refine VO.k7 0 1 2 6 8 11 49 ?_
            refine VC.rs ?_
            refine VO.as ?_
            refine VO.k7 0 1 2 6 8 11 49 ?_
            refine VC.ret ?_
            refine ⟨_, _, res_run (rs := [.tmp 6]) rfl (.tmp rfl .nil), fun W_ hI => out_of (l := [muns [mone g0 (.cells [Value.bool ((settleD d0 (min d1 ((d0.2.2.2.2.2.2.length : Nat) : Int)).toNat).1), Value.bool false, Value.bool false, Value.int .i64 (0), Value.int .i64 ((settleD d0 (min d1 ((d0.2.2.2.2.2.2.length : Nat) : Int)).toNat).2.2.2.2.1), Value.slice q67_A5 ((((settleD d0 (min d1 ((d0.2.2.2.2.2.2.length : Nat) : Int)).toNat).2.2.2.2.2.1).1).length) (q67_c5), Value.slice q67_A6 ((((settleD d0 (min d1 ((d0.2.2.2.2.2.2.length : Nat) : Int)).toNat).2.2.2.2.2.1).2.1).length) (q67_c6), Value.slice q67_A7 ((((settleD d0 (min d1 ((d0.2.2.2.2.2.2.length : Nat) : Int)).toNat).2.2.2.2.2.1).2.2.1).length) (q67_c7), Value.slice q67_A8 ((((settleD d0 (min d1 ((d0.2.2.2.2.2.2.length : Nat) : Int)).toNat).2.2.2.2.2.1).2.2.2).length) (q67_c8), Value.slice none (0) (0)].toArray q67_E (0, 0)), q67_n5, q67_n6, q67_n7, q67_n8]]) hI [174] rfl rfl (mle_refl _) (fun hS_ => ?_)⟩
            dsimp only [packV]
            have hm0_ : ((dStart d0 d1 d2).1 : DdiskDisk) = ((settleD d0 (min d1 ((d0.2.2.2.2.2.2.length : Nat) : Int)).toNat).1, false, false, 0, (settleD d0 (min d1 ((d0.2.2.2.2.2.2.length : Nat) : Int)).toNat).2.2.2.2.1, ((settleD d0 (min d1 ((d0.2.2.2.2.2.2.length : Nat) : Int)).toNat).2.2.2.2.2.1), []) := by first | rfl | (first | (rw [start_bad1 (by assumption)] <;> rfl) | (rw [start_bad2 (by assumption) (.inl (by simpa using ‹_›))] <;> rfl) | (rw [start_bad2 (by assumption) (.inr (.inl (by assumption)))] <;> rfl) | (rw [start_bad2 (by assumption) (.inr (.inr (by assumption)))] <;> rfl) | (rw [start_go (by assumption) (by simpa using ‹_›) (by assumption) (by assumption), torn_nil (by omega)] <;> rfl) | (rw [start_go (by assumption) (by simpa using ‹_›) (by assumption) (by assumption), torn_no (by assumption) (by assumption)] <;> rfl) | (rw [start_go (by assumption) (by simpa using ‹_›) (by assumption) (by assumption), torn_yes (by assumption) (by assumption), stepQ, setQ0 ‹_ = (0 : Int)›, getF0 ‹_ = (0 : Int)›] <;> rfl) | (rw [start_go (by assumption) (by simpa using ‹_›) (by assumption) (by assumption), torn_yes (by assumption) (by assumption), stepQ, setQ1 ‹_ = (1 : Int)›, getF1 ‹_ = (1 : Int)›] <;> rfl) | (rw [start_go (by assumption) (by simpa using ‹_›) (by assumption) (by assumption), torn_yes (by assumption) (by assumption), stepQ, setQ2 ‹_ = (2 : Int)›, getF2 ‹_ = (2 : Int)›] <;> rfl) | (rw [start_go (by assumption) (by simpa using ‹_›) (by assumption) (by assumption), torn_yes (by assumption) (by assumption), stepQ, setQ3 ‹_ = (3 : Int)›, getF3 ‹_ = (3 : Int)›] <;> rfl))
            refine ⟨?_, ?_⟩
            rotate_left
            · rw [hm0_]; exact (Ow.up ho74 (hS_.1 _ (.head _)))
            all_goals (first | rfl | (first | (rw [start_bad1 (by assumption)] <;> rfl) | (rw [start_bad2 (by assumption) (.inl (by simpa using ‹_›))] <;> rfl) | (rw [start_bad2 (by assumption) (.inr (.inl (by assumption)))] <;> rfl) | (rw [start_bad2 (by assumption) (.inr (.inr (by assumption)))] <;> rfl) | (rw [start_go (by assumption) (by simpa using ‹_›) (by assumption) (by assumption), torn_nil (by omega)] <;> rfl) | (rw [start_go (by assumption) (by simpa using ‹_›) (by assumption) (by assumption), torn_no (by assumption) (by assumption)] <;> rfl) | (rw [start_go (by assumption) (by simpa using ‹_›) (by assumption) (by assumption), torn_yes (by assumption) (by assumption), stepQ, setQ0 ‹_ = (0 : Int)›, getF0 ‹_ = (0 : Int)›] <;> rfl) | (rw [start_go (by assumption) (by simpa using ‹_›) (by assumption) (by assumption), torn_yes (by assumption) (by assumption), stepQ, setQ1 ‹_ = (1 : Int)›, getF1 ‹_ = (1 : Int)›] <;> rfl) | (rw [start_go (by assumption) (by simpa using ‹_›) (by assumption) (by assumption), torn_yes (by assumption) (by assumption), stepQ, setQ2 ‹_ = (2 : Int)›, getF2 ‹_ = (2 : Int)›] <;> rfl) | (rw [start_go (by assumption) (by simpa using ‹_›) (by assumption) (by assumption), torn_yes (by assumption) (by assumption), stepQ, setQ3 ‹_ = (3 : Int)›, getF3 ‹_ = (3 : Int)›] <;> rfl)))
end
section
set_option linter.unusedVariables false
abbrev DAct := Dlaw05Act
def smallA (l : List DAct) : Prop := (∀ a ∈ l, a.2.2.2.2.length ≤ 400) ∧ l.length ≤ 100
instance (l : List DAct) : Decidable (smallA l) := by unfold smallA; infer_instance
structure Fz (n : Int) (d : DDisk) : Prop where
  ok : okD d
  made : d.1 = true
  has : d.2.2.1 = true
  sum : d.2.2.2.2.1 + d.2.2.2.1 = n
  off : d.2.1 = true → d.2.2.2.1 = 0
theorem Fz.burn {n : Int} {d : DDisk} (h : Fz n d) (ho : d.2.1 = false) : Fz n (burnD d).1 ∧ ((burnD d).2 = true ↔ (burnD d).1.2.1 = false) ∧ ((burnD d).2 = true → (burnD d).1.2.1 = false) := by
  have hk := burn_ok h.ok
  obtain ⟨h1, h2, h3, h4, h5⟩ := h
  unfold burnD at hk ⊢
  rw [if_pos h3] at hk ⊢
  split
  · rename_i h0
    rw [if_pos h0] at hk
    exact ⟨⟨hk, h2, h3, h4, fun _ => h0⟩, by simp, by simp⟩
  · rename_i h0
    rw [if_neg h0] at hk
    exact ⟨⟨hk, h2, h3, by dsimp only; omega, fun q => absurd (ho.symm.trans q) (by decide)⟩, by simp [ho], fun _ => ho⟩
theorem Fz.add {n : Int} {d : DDisk} {s : DStep} (h : Fz n d) (hk : okD (addP d s)) : Fz n (addP d s) := ⟨hk, h.made, h.has, h.sum, h.off⟩
/-- What a call leaves: e the answer, d' the disk behind it. -/
structure Fs (n : Int) (d d' : DDisk) (e : Int) : Prop where
  fz : Fz n d'
  off : e = 6 ↔ d'.2.1 = true
  arg : e = 2 → d' = d
theorem Fs.wrong {n : Int} {d : DDisk} (h : Fz n d) (hw : ¬ wrongD d = 0) : Fs n d d (wrongD d) := by
  have hm : ¬ d.1 = false := by rw [h.made]; decide
  unfold wrongD at hw ⊢
  rw [if_neg hm] at hw ⊢
  by_cases ho : d.2.1 = true
  · rw [if_pos ho]; exact ⟨h, by simp [ho], fun q => by cases q⟩
  · rw [if_neg ho] at hw; exact absurd rfl hw
theorem on_of {n : Int} {d : DDisk} (h : Fz n d) (hw : wrongD d = 0) : d.2.1 = false := by
  have hm : ¬ d.1 = false := by rw [h.made]; decide
  unfold wrongD at hw
  rw [if_neg hm] at hw
  by_cases ho : d.2.1 = true
  · rw [if_pos ho] at hw; cases hw
  · simpa using ho
theorem Fs.cut {n : Int} {d : DDisk} {f k : Int} (h : Fz n d) : Fs n d (dCut d f k).1 (dCut d f k).2 := by
  have hk := cut_ok (f := f) (n := k) h.ok
  unfold dCut at hk ⊢
  split
  · rename_i hw; exact Fs.wrong h hw
  · rename_i hw
    have ho := on_of h (Decidable.not_not.1 hw)
    obtain ⟨k1, k2, k3⟩ := h.burn ho
    split
    · exact ⟨h, by simp [ho], fun _ => rfl⟩
    · rename_i hf
      rw [if_neg hw, if_neg hf] at hk
      split
      · rename_i hb
        rw [if_pos hb] at hk
        exact ⟨k1.add hk, by show (0 : Int) = 6 ↔ (burnD d).1.2.1 = true; simp [k3 hb], fun q => by cases q⟩
      · rename_i hb
        refine ⟨k1, ?_, fun q => by cases q⟩
        have : (burnD d).1.2.1 = true := by
          cases hc : (burnD d).1.2.1 with
          | true => rfl
          | false => exact absurd (k2.2 hc) hb
        simp [this]
/-- A disk that is on, without a fuse. -/
structure Onn (d : DDisk) : Prop where
  ok : okD d
  made : d.1 = true
  on : d.2.1 = false
  has : d.2.2.1 = false
theorem onn_sync {d : DDisk} (h : Onn d) : (dSync d).2 = 0 ∧ Onn (dSync d).1 ∧ dPending (dSync d).1 = 0 := by
  have hk := sync_ok h.ok
  have hw : ¬ ¬ wrongD d = 0 := by unfold wrongD; rw [if_neg (by rw [h.made]; decide), if_neg (by rw [h.on]; decide)]; decide
  have hb : burnD d = ((d.1, d.2.1, d.2.2.1, d.2.2.2.1, d.2.2.2.2.1 + 1, d.2.2.2.2.2), true) := by unfold burnD; rw [if_neg (by rw [h.has]; decide)]
  rw [sync_go hw (by rw [hb]; simp)] at hk ⊢
  rw [hb] at hk ⊢
  refine ⟨rfl, ⟨hk, h.made, h.on, h.has⟩, ?_⟩
  show (if d.1 = false then 0 else (((d.2.2.2.2.2.2.drop d.2.2.2.2.2.2.length).length : Nat) : Int)) = 0
  simp
end
section
set_option linter.unusedVariables false
abbrev DRaw := Dref05Raw
abbrev DRDisk := Dref05Disk
def stepOf (r : DRaw) : DStep := (if r.2.1 = true then 1 else 0, r.1, r.2.2.2, r.2.2.1)
def rawOf (s : DStep) : DRaw := (s.2.1, decide (s.1 = 1), s.2.2.2, s.2.2.1)
@[simp] theorem raw_step (r : DRaw) : rawOf (stepOf r) = r := by obtain ⟨f, c, t, b⟩ := r; cases c <;> rfl
theorem step_raw {s : DStep} (h : s.1 = 0 ∨ s.1 = 1) : stepOf (rawOf s) = s := by
  obtain ⟨k, f, b, t⟩ := s
  rcases h with h | h <;> (dsimp only at h; subst h; rfl)
@[simp] theorem raws_steps (l : List DRaw) : (l.map stepOf).map rawOf = l := by
  rw [List.map_map]
  conv => rhs; rw [← List.map_id l]
  congr 1; funext r; exact raw_step r
@[simp] theorem comp_rs : rawOf ∘ stepOf = id := funext raw_step
theorem steps_raws : ∀ {l : List DStep} {q : Dur}, goodL q l → (l.map rawOf).map stepOf = l
  | [], _, _ => rfl
  | s :: l, q, h => by rw [List.map_cons, List.map_cons, step_raw h.1.1, steps_raws h.2]
def fromR (r : DRDisk) : DDisk := (r.1, !r.2.2.2.1, r.2.2.2.2.1, if r.2.2.2.2.1 = true then r.2.2.2.2.2.1 else 0, r.2.2.2.2.2.2, r.2.1, r.2.2.1.map stepOf)
def toR (d : DDisk) (x : Int) : DRDisk := (d.1, d.2.2.2.2.2.1, d.2.2.2.2.2.2.map rawOf, !d.2.1, d.2.2.1, if d.2.2.1 = true then d.2.2.2.1 else x, d.2.2.2.2.1)
/-- A disk without a fuse has none left. -/
def nf (d : DDisk) : Prop := d.2.2.1 = false → d.2.2.2.1 = 0
theorem from_to {d : DDisk} {x : Int} (h : okD d) (hn : nf d) : fromR (toR d x) = d := by
  obtain ⟨m, o, f, n, c, q, l⟩ := d
  have h1 := steps_raws h.1
  unfold nf at hn
  dsimp only at h1 hn
  unfold fromR toR
  dsimp only
  rw [h1]
  cases f
  · simp [hn rfl]
  · simp
theorem nf_from (r : DRDisk) : nf (fromR r) := by
  unfold nf fromR
  dsimp only
  intro h; rw [h]; rfl
section
variable {d : DDisk}
theorem nf_fuse {n : Int} (h : nf d) : nf (dFuse d n).1 := by
  unfold dFuse; split
  · exact h
  · split
    · exact h
    · intro q; cases q
theorem nf_start {k t : Int} (h : nf d) : nf (dStart d k t).1 := by
  unfold dStart; split
  · exact h
  · split
    · exact h
    · intro _; rfl
end
end
section
set_option linter.unusedVariables false
abbrev TSection : Ty := .pair (.int .i64) (.pair (.int .i64) (.sl TCommit))
abbrev DSection := Int × Int × (List DCommit)
instance decSection : DecidableEq DSection := (@instDecidableEqProd _ _ inferInstance (@instDecidableEqProd _ _ inferInstance inferInstance))
theorem open_Section {m : Mem} {cs : List Value} {x0 : Int} {x1 : Int} {x2 : List DCommit} (h : Rd TSection m cs (x0, x1, x2)) : ∃ (A2 : Option Addr), ∃ (c2 : Nat), cs = [(.int .i64 x0 : Value), .int .i64 x1, .slice A2 x2.length c2] ∧ inK .i64 x0 ∧ inK .i64 x1 ∧ Rd (.sl TCommit) m [.slice A2 x2.length c2] x2 := by
  obtain ⟨p1, q1, rfl, u1, w1⟩ := Rd.pair h
  obtain ⟨rfl, z2⟩ := (show _ = _ ∧ _ from u1)
  obtain ⟨p3, q3, rfl, u3, w3⟩ := Rd.pair w1
  obtain ⟨rfl, z4⟩ := (show _ = _ ∧ _ from u3)
  have z5 := w3
  obtain ⟨A5, c5, rfl, _⟩ := Rd.slice1 w3
  exact ⟨A5, c5, rfl, z2, z4, z5⟩
theorem mk_Section {m : Mem} (x0 : Int) (x1 : Int) (x2 : List DCommit) (h0 : inK .i64 x0) (h1 : inK .i64 x1) {v2 : Value} (h2 : Rd (.sl TCommit) m [v2] x2) : Rd TSection m [.int .i64 x0, .int .i64 x1, v2] (x0, x1, x2) := (Rd.mkPair (c1 := [_]) (show Rd (.int .i64) m [_] _ from ⟨rfl, h0⟩) (Rd.mkPair (c1 := [_]) (show Rd (.int .i64) m [_] _ from ⟨rfl, h1⟩) h2))
theorem openO_Section {m : Mem} {cs : List Value} {x0 : Int} {x1 : Int} {x2 : List DCommit} (h : Ow TSection m cs (x0, x1, x2)) : ∃ (A2 : Option Addr), ∃ (c2 : Nat), ∃ (n2 : Mem), cs = [(.int .i64 x0 : Value), .int .i64 x1, .slice A2 x2.length c2] ∧ Seps m [n2] ∧ inK .i64 x0 ∧ inK .i64 x1 ∧ Ow (.sl TCommit) n2 [.slice A2 x2.length c2] x2 := by
  obtain ⟨p1, q1, ma1, mb1, rfl, dj1, la1, lb1, u1, w1⟩ := Ow.pair h
  obtain ⟨rfl, z2⟩ := (show _ = _ ∧ _ from u1)
  obtain ⟨p3, q3, ma3, mb3, rfl, dj3, la3, lb3, u3, w3⟩ := Ow.pair w1
  obtain ⟨rfl, z4⟩ := (show _ = _ ∧ _ from u3)
  have z5 := w3
  obtain ⟨A5, c5, rfl, _⟩ := Ow.slice1 w3
  exact ⟨A5, c5, _, rfl, (Seps.app dj1 la1 lb1 (Seps.nil _) (Seps.app dj3 la3 lb3 (Seps.nil _) (Seps.one (mle_refl _)))), z2, z4, z5⟩
theorem mkO_Section {m : Mem} {n2 : Mem} (x0 : Int) (x1 : Int) (x2 : List DCommit) (hS : Seps m [n2]) (h0 : inK .i64 x0) (h1 : inK .i64 x1) {v2 : Value} (h2 : Ow (.sl TCommit) n2 [v2] x2) : Ow TSection m [.int .i64 x0, .int .i64 x1, v2] (x0, x1, x2) := by
  obtain ⟨e1, la1, lb1, Sa1, Sb1⟩ := Seps.cut (l := []) (r := [n2]) hS
  obtain ⟨e2, la2, lb2, Sa2, Sb2⟩ := Seps.cut (l := []) (r := [n2]) Sb1
  exact (Ow.mkPair (c1 := [_]) e1 la1 lb1 (show Ow (.int .i64) _ [_] _ from ⟨rfl, h0⟩) (Ow.mkPair (c1 := [_]) e2 la2 lb2 (show Ow (.int .i64) _ [_] _ from ⟨rfl, h1⟩) (h2.up (Sb2.1 _ (.head _)))))
end
section
set_option linter.unusedVariables false
def zS : DSection := (0, 0, [])
def sectCheck (s : DSection) : Int := if s.1 < 1 ∨ 1048576 < s.1 ∨ s.2.1 < 0 ∨ s.2.2.length = 0 then 2 else if ¬ (cFollows 1 s.2.1 s.2.2).1 = 0 then (cFollows 1 s.2.1 s.2.2).1 else if s.1 ≤ lastOr 0 s.2.2 then 15 else 0
section
variable {s : DSection} {k : Nat} {x : DCommit}
theorem sect_bad1 (h : s.1 < 1 ∨ 1048576 < s.1 ∨ s.2.1 < 0 ∨ (s.2.2.length : Int) = 0) : sectCheck s = 2 := if_pos (by omega)
theorem sect_bad2 (h1 : ¬ s.1 < 1) (h2 : ¬ 1048576 < s.1) (h3 : ¬ s.2.1 < 0) (h4 : ¬ (s.2.2.length : Int) = 0) (h : ¬ (cFollows 1 s.2.1 s.2.2).1 = 0) : sectCheck s = (cFollows 1 s.2.1 s.2.2).1 := by
  unfold sectCheck; rw [if_neg (by omega), if_pos h]
theorem sect_bad3 (h1 : ¬ s.1 < 1) (h2 : ¬ 1048576 < s.1) (h3 : ¬ s.2.1 < 0) (h4 : ¬ (s.2.2.length : Int) = 0) (h : ¬ ¬ (cFollows 1 s.2.1 s.2.2).1 = 0) (hx : s.2.2[k]? = some x) (h0 : k + 1 = s.2.2.length) (h5 : s.1 ≤ x.1) : sectCheck s = 15 := by
  unfold sectCheck; rw [if_neg (by omega), if_neg h, lastOr_eq hx h0, if_pos h5]
theorem sect_good (h1 : ¬ s.1 < 1) (h2 : ¬ 1048576 < s.1) (h3 : ¬ s.2.1 < 0) (h4 : ¬ (s.2.2.length : Int) = 0) (h : ¬ ¬ (cFollows 1 s.2.1 s.2.2).1 = 0) (hx : s.2.2[k]? = some x) (h0 : k + 1 = s.2.2.length) (h5 : ¬ s.1 ≤ x.1) : sectCheck s = 0 := by
  unfold sectCheck; rw [if_neg (by omega), if_neg h, lastOr_eq hx h0, if_neg h5]
theorem sect_ok (h : sectCheck s = 0) : 1 ≤ s.1 ∧ s.1 ≤ 1048576 ∧ 0 ≤ s.2.1 ∧ 1 ≤ s.2.2.length ∧ (cFollows 1 s.2.1 s.2.2).1 = 0 ∧ lastOr 0 s.2.2 < s.1 := by
  unfold sectCheck at h
  split at h
  · cases h
  · split at h
    · exact absurd h ‹_›
    · split at h
      · cases h
      · rename_i h1 h2 h3
        exact ⟨by omega, by omega, by omega, by omega, Decidable.not_not.1 h2, by omega⟩
theorem sect_commits (h : sectCheck s = 0) : ∀ c ∈ s.2.2, cCheck c = 0 := cFollowsAt_ok (sect_ok h).2.2.2.2.1
theorem sect_fork (h : sectCheck s = 0) : s.2.1 + s.2.2.length ≤ 1048576 := by
  obtain ⟨h1, h2, h3, h4, h5, h6⟩ := sect_ok h
  obtain ⟨x, hx⟩ : ∃ x, s.2.2[s.2.2.length - 1]? = some x := ⟨_, List.getElem?_eq_getElem (by omega)⟩
  have := follows_get h5 hx
  have h7 := cCheck_ok this.2.2.1
  omega
theorem sectCheck_range (s : DSection) : 0 ≤ sectCheck s ∧ sectCheck s ≤ 15 := by
  unfold sectCheck
  split
  · omega
  · split
    · exact cFollowsAt_range _ _ _ _
    · split <;> omega
end
def sectHead (s : DSection) : Bytes := venc s.1.toNat ++ (venc s.2.1.toNat ++ venc s.2.2.length)
def sectEnc (s : DSection) : Bytes := fEnc (sectHead s) ++ cFrames s.2.2
def sectEncode (s : DSection) : Bytes × Int := if sectCheck s = 0 then (sectEnc s, 0) else ([], sectCheck s)
theorem sectEncode_bad {s : DSection} (h : ¬ sectCheck s = 0) : sectEncode s = ([], sectCheck s) := if_neg h
theorem sectEncode_good {s : DSection} (h : ¬ ¬ sectCheck s = 0) : sectEncode s = (sectEnc s, 0) := if_pos (Decidable.not_not.1 h)
theorem sectHead_len {s : DSection} (h : sectCheck s = 0) : (sectHead s).length ≤ 30 := by
  have h1 := sect_ok h
  have h2 := sect_fork h
  have v1 := venc_len (x := s.1.toNat) (by omega)
  have v2 := venc_len (x := s.2.1.toNat) (by omega)
  have v3 := venc_len (x := s.2.2.length) (by omega)
  simp only [sectHead, List.length_append]; omega
theorem sectEnc_len {s : DSection} (h : sectCheck s = 0) : (sectEnc s).length ≤ 40 + 710 * s.2.2.length ∧ s.2.2.length ≤ 1048576 ∧ 1 ≤ (sectEnc s).length := by
  have h1 := sectHead_len h
  have h2 := cFrames_len (sect_commits h)
  have h3 := fEnc_len (r := sectHead s) (by omega)
  have h4 := sect_fork h
  have h5 := sect_ok h
  have h6 := fEnc_pos (sectHead s)
  simp only [sectEnc, List.length_append]; omega
theorem sectEncode_len (s : DSection) : (sectEncode s).1.length ≤ 800000000 ∧ (sectEncode s).1.length ≤ 40 + 710 * s.2.2.length := by
  unfold sectEncode
  split
  · have := sectEnc_len ‹_›; dsimp only; omega
  · simp
def hB1 (B : Bytes) : Bytes := B.drop (sN B 1048576)
def hB2 (B : Bytes) : Bytes := (hB1 B).drop (sN (hB1 B) 1048576)
def hB3 (B : Bytes) : Bytes := (hB2 B).drop (sN (hB2 B) 1048576)
def headS (B : Bytes) : DSection × Int × Bool := if sE B 1048576 = 0 ∧ sE (hB1 B) 1048576 = 0 ∧ sE (hB2 B) 1048576 = 0 then (((sX B 1048576 : Int), (sX (hB1 B) 1048576 : Int), []), (sX (hB2 B) 1048576 : Int), decide (((hB3 B).length : Int) = 0)) else (zS, 0, false)
theorem headS_no1 {B : Bytes} (h : ¬ sE B 1048576 = 0) : headS B = (zS, 0, false) := if_neg fun q => h q.1
theorem headS_no2 {B : Bytes} (h : ¬ sE (hB1 B) 1048576 = 0) : headS B = (zS, 0, false) := if_neg fun q => h q.2.1
theorem headS_no3 {B : Bytes} (h : ¬ sE (hB2 B) 1048576 = 0) : headS B = (zS, 0, false) := if_neg fun q => h q.2.2
theorem headS_yes {B : Bytes} (h : ¬ ¬ sE B 1048576 = 0) (h1 : ¬ ¬ sE (hB1 B) 1048576 = 0) (h2 : ¬ ¬ sE (hB2 B) 1048576 = 0) : headS B = (((sX B 1048576 : Int), (sX (hB1 B) 1048576 : Int), []), (sX (hB2 B) 1048576 : Int), decide (((hB3 B).length : Int) = 0)) :=
  if_pos ⟨Decidable.not_not.1 h, Decidable.not_not.1 h1, Decidable.not_not.1 h2⟩
theorem headS_x2 {B : Bytes} (h : ¬ sE (B.drop (sN B 1048576)) 1048576 = 0) : headS B = (zS, 0, false) := headS_no2 h
theorem headS_x3 {B : Bytes} (h : ¬ sE ((B.drop (sN B 1048576)).drop (sN (B.drop (sN B 1048576)) 1048576)) 1048576 = 0) : headS B = (zS, 0, false) := headS_no3 h
theorem headS_x4 {B : Bytes} (h : ¬ ¬ sE B 1048576 = 0) (h1 : ¬ ¬ sE (B.drop (sN B 1048576)) 1048576 = 0) (h2 : ¬ ¬ sE ((B.drop (sN B 1048576)).drop (sN (B.drop (sN B 1048576)) 1048576)) 1048576 = 0) :
    headS B = (((sX B 1048576 : Int), (sX (B.drop (sN B 1048576)) 1048576 : Int), []), (sX ((B.drop (sN B 1048576)).drop (sN (B.drop (sN B 1048576)) 1048576)) 1048576 : Int), decide (((((B.drop (sN B 1048576)).drop (sN (B.drop (sN B 1048576)) 1048576)).drop (sN ((B.drop (sN B 1048576)).drop (sN (B.drop (sN B 1048576)) 1048576)) 1048576)).length : Int) = 0)) := headS_yes h h1 h2
theorem headS_range (B : Bytes) : 0 ≤ (headS B).2.1 ∧ (headS B).2.1 ≤ 1048576 ∧ 0 ≤ (headS B).1.1 ∧ (headS B).1.1 ≤ 1048576 ∧ 0 ≤ (headS B).1.2.1 ∧ (headS B).1.2.1 ≤ 1048576 ∧ (headS B).1.2.2 = [] := by
  have h1 := (s_bounds B 1048576 (by omega)).2.1 (by omega)
  have h2 := (s_bounds (hB1 B) 1048576 (by omega)).2.1 (by omega)
  have h3 := (s_bounds (hB2 B) 1048576 (by omega)).2.1 (by omega)
  unfold headS
  split
  · dsimp only; exact ⟨by omega, by omega, by omega, by omega, by omega, by omega, rfl⟩
  · exact ⟨by decide, by decide, by decide, by decide, by decide, by decide, rfl⟩
abbrev hR1 (B : Bytes) : Int × RS := rNum B 1048576 (0, false)
theorem fol_ne {e n : Int} {l : List DCommit} (h : ¬ ((cFollows e n l).1 = 0 ∧ (cFollows e n l).2 = 0)) : ¬ (cFollows e n l).1 = 0 := fun q => h (none_iff.2 q)
theorem fol_eq {e n : Int} {l : List DCommit} (h : ¬ ¬ ((cFollows e n l).1 = 0 ∧ (cFollows e n l).2 = 0)) : ¬ ¬ (cFollows e n l).1 = 0 := fun q => h fun r => q r.1
def comGo : Nat → Bytes → List DCommit → Int → Option (List DCommit × Int)
  | 0, _, acc, a => some (acc, a)
  | n + 1, b, acc, a => if ¬ (fRead (b.drop a.toNat)).2.2 = 0 then none else if ¬ (cDecode (fRead (b.drop a.toNat)).1).2 = 0 then none else comGo n b (acc ++ [(cDecode (fRead (b.drop a.toNat)).1).1]) (a + (fRead (b.drop a.toNat)).2.1)
def secRead (b : Bytes) : DSection × Int × Bool :=
  if ¬ (fRead b).2.2 = 0 then (zS, 0, false) else if (headS (fRead b).1).2.2 = false then (zS, 0, false) else
    match comGo (headS (fRead b).1).2.1.toNat b [] (fRead b).2.1 with
    | none => (zS, 0, false)
    | some (cs, a) => (((headS (fRead b).1).1.1, (headS (fRead b).1).1.2.1, cs), a, decide (sectCheck ((headS (fRead b).1).1.1, (headS (fRead b).1).1.2.1, cs) = 0))
section
variable {b : Bytes} {n : Nat} {acc : List DCommit} {a : Int} {p : Option (List DCommit × Int)}
theorem com_no1 (hp : p = comGo n b acc a) (h : 0 < n) (h1 : ¬ (fRead (b.drop a.toNat)).2.2 = 0) : p = none := by
  rw [hp]; obtain ⟨m, rfl⟩ : ∃ m, n = m + 1 := ⟨n - 1, by omega⟩
  exact if_pos h1
theorem com_no2 (hp : p = comGo n b acc a) (h : 0 < n) (h1 : ¬ ¬ (fRead (b.drop a.toNat)).2.2 = 0) (h2 : ¬ (cDecode (fRead (b.drop a.toNat)).1).2 = 0) : p = none := by
  rw [hp]; obtain ⟨m, rfl⟩ : ∃ m, n = m + 1 := ⟨n - 1, by omega⟩
  rw [comGo, if_neg h1, if_pos h2]
theorem com_next (hp : p = comGo n b acc a) (h : 0 < n) (h1 : ¬ ¬ (fRead (b.drop a.toNat)).2.2 = 0) (h2 : ¬ ¬ (cDecode (fRead (b.drop a.toNat)).1).2 = 0) : p = comGo (n - 1) b (acc ++ [(cDecode (fRead (b.drop a.toNat)).1).1]) (a + (fRead (b.drop a.toNat)).2.1) := by
  rw [hp]; obtain ⟨m, rfl⟩ : ∃ m, n = m + 1 := ⟨n - 1, by omega⟩
  rw [comGo, if_neg h1, if_neg h2]; rfl
theorem com_end (hp : p = comGo n b acc a) (h : n = 0) : p = some (acc, a) := by subst h; exact hp
theorem com_read (b : Bytes) (a : Int) (h : 0 ≤ a) (h2 : a ≤ b.length) : 0 ≤ (fRead (b.drop a.toNat)).2.1 ∧ a + (fRead (b.drop a.toNat)).2.1 ≤ b.length := by
  have := fRead_bounds (b.drop a.toNat)
  simp only [List.length_drop] at this
  omega
theorem comGo_bounds : ∀ {n : Nat} {acc : List DCommit} {a : Int} {cs : List DCommit} {e : Int}, 0 ≤ a → a ≤ b.length → comGo n b acc a = some (cs, e) → a ≤ e ∧ e ≤ b.length ∧ cs.length = acc.length + n ∧ ((∀ c ∈ acc, cCheck c = 0) → ∀ c ∈ cs, cCheck c = 0)
  | 0, acc, a, cs, e, h, h2, hp => by cases hp; exact ⟨Int.le_refl _, h2, rfl, fun h => h⟩
  | n + 1, acc, a, cs, e, h, h2, hp => by
    have hb := com_read b a h h2
    unfold comGo at hp
    split at hp
    · cases hp
    · split at hp
      · cases hp
      · rename_i h3 h4
        obtain ⟨k1, k2, k3, k4⟩ := comGo_bounds (by omega) hb.2 hp
        simp only [List.length_append, List.length_cons, List.length_nil] at k3
        refine ⟨by omega, k2, by omega, fun hc => k4 fun c hc2 => ?_⟩
        rcases List.mem_append.1 hc2 with q | q
        · exact hc c q
        · simp only [List.mem_cons, List.not_mem_nil, or_false] at q; subst q
          exact (cDecode_back (Decidable.not_not.1 h4)).1
end
theorem sec_no1 {b : Bytes} (h : ¬ (fRead b).2.2 = 0) : secRead b = (zS, 0, false) := if_pos h
theorem sec_no2 {b : Bytes} (h : (headS (fRead b).1).2.2 = false) : secRead b = (zS, 0, false) := by
  unfold secRead
  by_cases h0 : (fRead b).2.2 = 0
  · rw [if_neg (by simpa using h0), if_pos h]
  · rw [if_pos h0]
theorem sec_no3 {b : Bytes} (h : ¬ ¬ (fRead b).2.2 = 0) (h2 : ¬ (headS (fRead b).1).2.2 = false) (hc : comGo (headS (fRead b).1).2.1.toNat b [] (fRead b).2.1 = none) : secRead b = (zS, 0, false) := by
  unfold secRead; rw [if_neg h, if_neg h2, hc]
theorem sec_yes {b : Bytes} {cs : List DCommit} {a : Int} (h : ¬ ¬ (fRead b).2.2 = 0) (h2 : ¬ (headS (fRead b).1).2.2 = false) (hc : comGo (headS (fRead b).1).2.1.toNat b [] (fRead b).2.1 = some (cs, a)) :
    secRead b = (((headS (fRead b).1).1.1, (headS (fRead b).1).1.2.1, cs), a, decide (sectCheck ((headS (fRead b).1).1.1, (headS (fRead b).1).1.2.1, cs) = 0)) := by
  unfold secRead; rw [if_neg h, if_neg h2, hc]
theorem secRead_bounds (b : Bytes) : 0 ≤ (secRead b).2.1 ∧ (secRead b).2.1 ≤ b.length ∧ ((secRead b).2.2 = true → 1 ≤ (secRead b).2.1 ∧ sectCheck (secRead b).1 = 0) ∧ 0 ≤ (secRead b).1.1 ∧ (secRead b).1.1 ≤ 1048576 ∧ (∀ c ∈ (secRead b).1.2.2, c.2.2.length ≤ 8) ∧ (secRead b).1.2.2.length ≤ 1048576 := by
  have hz : 0 ≤ (zS, (0 : Int), false).2.1 ∧ (zS, (0 : Int), false).2.1 ≤ b.length ∧ ((zS, (0 : Int), false).2.2 = true → 1 ≤ (zS, (0 : Int), false).2.1 ∧ sectCheck (zS, (0 : Int), false).1 = 0) ∧ 0 ≤ (zS, (0 : Int), false).1.1 ∧ (zS, (0 : Int), false).1.1 ≤ 1048576 ∧ (∀ c ∈ (zS, (0 : Int), false).1.2.2, c.2.2.length ≤ 8) ∧ (zS, (0 : Int), false).1.2.2.length ≤ 1048576 :=
    ⟨Int.le_refl _, by simp, (fun h => by cases h), Int.le_refl _, by decide, (fun c h => by cases h), by decide⟩
  by_cases h : (fRead b).2.2 = 0
  · by_cases h2 : (headS (fRead b).1).2.2 = false
    · rw [sec_no2 h2]; exact hz
    · cases hc : comGo (headS (fRead b).1).2.1.toNat b [] (fRead b).2.1 with
      | none => rw [sec_no3 (by simpa using h) h2 hc]; exact hz
      | some p =>
        obtain ⟨cs, a⟩ := p
        have hf := fRead_bounds b
        have hh := headS_range (fRead b).1
        obtain ⟨k1, k2, k3, k4⟩ := comGo_bounds hf.1 hf.2.1 hc
        rw [sec_yes (by simpa using h) h2 hc]
        have := hf.2.2.2.2.1 h
        simp only [List.length_nil] at k3
        refine ⟨by dsimp only; omega, k2, fun q => ⟨by dsimp only; omega, of_decide_eq_true q⟩, hh.2.2.1, hh.2.2.2.1, fun c hc => ?_, by dsimp only; omega⟩
        exact batchCheck_ok (cCheck_ok (k4 (fun _ h => by cases h) c hc)).2.2.2.2
  · rw [sec_no1 h]; exact hz
theorem headS_there {s : DSection} (h : sectCheck s = 0) : headS (sectHead s) = ((s.1, s.2.1, []), (s.2.2.length : Int), true) := by
  have h1 := sect_ok h
  have h2 := sect_fork h
  obtain ⟨a1, a2, a3⟩ := s_there (x := s.1.toNat) (m := 1048576) (by omega) (by omega) (venc s.2.1.toNat ++ venc s.2.2.length)
  obtain ⟨b1, b2, b3⟩ := s_there (x := s.2.1.toNat) (m := 1048576) (by omega) (by omega) (venc s.2.2.length)
  obtain ⟨c1, c2, c3⟩ := s_there (x := s.2.2.length) (m := 1048576) (by omega) (by omega) []
  rw [List.append_nil] at c1 c2 c3
  have e1 : hB1 (sectHead s) = venc s.2.1.toNat ++ venc s.2.2.length := by unfold hB1 sectHead; rw [a2, List.drop_left]
  have e2 : hB2 (sectHead s) = venc s.2.2.length := by unfold hB2; rw [e1, b2, List.drop_left]
  have e3 : hB3 (sectHead s) = [] := by unfold hB3; rw [e2, c2, List.drop_length]
  have q3 : sE (sectHead s) 1048576 = 0 := a3
  rw [headS_yes (by simpa using q3) (by rw [e1]; simpa using b3) (by rw [e2]; simpa using c3), e1, e2, e3, b1, c1, show sX (sectHead s) 1048576 = _ from a1]
  rw [show ((s.1.toNat : Nat) : Int) = s.1 by omega, show ((s.2.1.toNat : Nat) : Int) = s.2.1 by omega]
  rfl
theorem headS_back {B : Bytes} (h : (headS B).2.2 = true) : B = venc (headS B).1.1.toNat ++ (venc (headS B).1.2.1.toNat ++ venc (headS B).2.1.toNat) := by
  by_cases h1 : sE B 1048576 = 0
  · by_cases h2 : sE (hB1 B) 1048576 = 0
    · by_cases h3 : sE (hB2 B) 1048576 = 0
      · rw [headS_yes (by simpa using h1) (by simpa using h2) (by simpa using h3)] at h ⊢
        have hl : (hB3 B).length = 0 := by have := of_decide_eq_true h; omega
        have e1 := s_back h1
        have e2 := s_back h2
        have e3 := s_back h3
        rw [show (hB2 B).drop (sN (hB2 B) 1048576) = [] from List.eq_nil_of_length_eq_zero hl, List.append_nil] at e3
        dsimp only
        simp only [Int.toNat_natCast]
        rw [← e3, show hB2 B = (hB1 B).drop (sN (hB1 B) 1048576) from rfl, ← e2]
        exact e1
      · rw [headS_no3 h3] at h; cases h
    · rw [headS_no2 h2] at h; cases h
  · rw [headS_no1 h1] at h; cases h
theorem comGo_there : ∀ {l : List DCommit} {b r : Bytes} {a : Nat} {acc : List DCommit}, (∀ c ∈ l, cCheck c = 0) → b.drop a = cFrames l ++ r → comGo l.length b acc (a : Int) = some (acc ++ l, ((a + (cFrames l).length : Nat) : Int))
  | [], b, r, a, acc, _, hd => by simp [comGo, cFrames]
  | c :: l, b, r, a, acc, hc, hd => by
    rw [cFrames_cons, List.append_assoc] at hd
    obtain ⟨k1, k2⟩ := frame_there (hc c (.head _)) (cFrames l ++ r)
    rw [← hd] at k1
    show comGo (l.length + 1) b acc (a : Int) = _
    rw [comGo, Int.toNat_natCast, k1, if_neg (by simp), if_neg (by rw [k2]; simp), k2]
    dsimp only
    have hn : b.drop (a + (cFrame c).length) = cFrames l ++ r := by rw [← List.drop_drop, hd, List.drop_left]
    have ih := comGo_there (acc := acc ++ [c]) (fun x hx => hc x (.tail _ hx)) hn
    rw [← Int.natCast_add, ih, cFrames_cons]
    simp [Nat.add_assoc]
theorem comGo_back : ∀ {n : Nat} {b : Bytes} {acc cs : List DCommit} {a : Nat} {e : Int}, a ≤ b.length → comGo n b acc (a : Int) = some (cs, e) → ∃ l, cs = acc ++ l ∧ l.length = n ∧ (∀ c ∈ l, cCheck c = 0) ∧ b.drop a = cFrames l ++ b.drop e.toNat ∧ e = ((a + (cFrames l).length : Nat) : Int)
  | 0, b, acc, cs, a, e, ha, h => by cases h; exact ⟨[], by simp, rfl, (fun c h => by cases h), by simp [cFrames], by simp [cFrames]⟩
  | n + 1, b, acc, cs, a, e, ha, h => by
    unfold comGo at h
    rw [Int.toNat_natCast] at h
    split at h
    · cases h
    · rename_i h1
      split at h
      · cases h
      · rename_i h2
        obtain ⟨k1, k2, k3⟩ := frame_back (Decidable.not_not.1 h1) (Decidable.not_not.1 h2)
        generalize hc : (cDecode (fRead (b.drop a)).1).1 = c at *
        rw [k3, ← Int.natCast_add] at h
        have hl := congrArg List.length k2
        simp only [List.length_append, List.length_drop] at hl
        obtain ⟨l, j1, j2, j3, j4, j5⟩ := comGo_back (by rw [k3] at hl; omega) h
        rw [k3, Int.toNat_natCast, List.drop_drop] at k2
        refine ⟨c :: l, by rw [j1]; simp, by simp [j2], fun x hx => ?_, ?_, ?_⟩
        · rcases List.mem_cons.1 hx with rfl | hx
          · exact k1
          · exact j3 x hx
        · rw [k2, j4, cFrames_cons, List.append_assoc]
        · rw [j5, cFrames_cons]; simp [Nat.add_assoc]
theorem secRead_there {s : DSection} (h : sectCheck s = 0) (r : Bytes) : secRead (sectEnc s ++ r) = (s, ((sectEnc s).length : Int), true) := by
  have hl := sectHead_len h
  have e1 : fRead (sectEnc s ++ r) = (sectHead s, ((fEnc (sectHead s)).length : Int), 0) := by
    unfold sectEnc; rw [List.append_assoc]; exact fRead_there (by omega) _
  have e2 := headS_there h
  have e3 : (sectEnc s ++ r).drop (fEnc (sectHead s)).length = cFrames s.2.2 ++ r := by unfold sectEnc; rw [List.append_assoc, List.drop_left]
  have e4 := comGo_there (acc := []) (sect_commits h) e3
  rw [sec_yes (cs := s.2.2) (a := ((sectEnc s).length : Int)) (by rw [e1]; simp) (by rw [e1, e2]; simp) (by rw [e1, e2]; dsimp only; rw [Int.toNat_natCast, e4]; simp [sectEnc]), e1, e2]
  dsimp only
  rw [decide_eq_true h]
theorem secRead_back {b : Bytes} (h : (secRead b).2.2 = true) : sectCheck (secRead b).1 = 0 ∧ b = sectEnc (secRead b).1 ++ b.drop (secRead b).2.1.toNat ∧ (secRead b).2.1 = ((sectEnc (secRead b).1).length : Int) := by
  by_cases h1 : (fRead b).2.2 = 0
  · by_cases h2 : (headS (fRead b).1).2.2 = false
    · rw [sec_no2 h2] at h; cases h
    · cases hc : comGo (headS (fRead b).1).2.1.toNat b [] (fRead b).2.1 with
      | none => rw [sec_no3 (by simpa using h1) h2 hc] at h; cases h
      | some p =>
        obtain ⟨cs, a⟩ := p
        have hf := fRead_bounds b
        have hh := headS_range (fRead b).1
        obtain ⟨f1, f2, f3⟩ := fRead_back h1
        rw [f2] at hc
        obtain ⟨l, j1, j2, j3, j4, j5⟩ := comGo_back (by omega) hc
        rw [List.nil_append] at j1; subst j1
        have hb := headS_back (by simpa using h2)
        have e0 := sec_yes (by simpa using h1) h2 (by rw [f2]; exact hc)
        rw [e0] at h ⊢
        have hs : sectCheck ((headS (fRead b).1).1.1, (headS (fRead b).1).1.2.1, cs) = 0 := of_decide_eq_true h
        have eh : sectHead ((headS (fRead b).1).1.1, (headS (fRead b).1).1.2.1, cs) = (fRead b).1 := by
          unfold sectHead
          dsimp only
          rw [j2]; exact hb.symm
        refine ⟨hs, ?_, ?_⟩
        · dsimp only [sectEnc]
          rw [eh, List.append_assoc, ← j4]
          rw [f2, Int.toNat_natCast] at f1
          exact f1
        · dsimp only [sectEnc]
          rw [eh, j5]; simp
  · rw [sec_no1 h1] at h; cases h
def scanS : Nat → Bytes → List DSection → Int → Int → List DSection × Int
  | 0, _, out, a, _ => (out, a)
  | k + 1, B, out, a, ep => if (secRead (B.drop a.toNat)).2.2 = false ∨ (secRead (B.drop a.toNat)).1.1 ≤ ep then (out, a) else scanS k B (out ++ [(secRead (B.drop a.toNat)).1]) (a + (secRead (B.drop a.toNat)).2.1) (secRead (B.drop a.toNat)).1.1
def scanF (B : Bytes) : List DSection × Int := scanS B.length B [] 0 0
section
variable {B : Bytes} {k : Nat} {out : List DSection} {a ep : Int} {p : List DSection × Int}
theorem scan_end (hp : p = scanS k B out a ep) (h : (secRead (B.drop a.toNat)).2.2 = false ∨ (secRead (B.drop a.toNat)).1.1 ≤ ep) : p = (out, a) := by
  rw [hp]; cases k with
  | zero => rfl
  | succ k => exact if_pos h
theorem scan_next (hp : p = scanS k B out a ep) (ha : 0 ≤ a) (hk : (B.length : Int) - a ≤ k) (h : ¬ (secRead (B.drop a.toNat)).2.2 = false) (h2 : ¬ (secRead (B.drop a.toNat)).1.1 ≤ ep) :
    p = scanS (k - 1) B (out ++ [(secRead (B.drop a.toNat)).1]) (a + (secRead (B.drop a.toNat)).2.1) (secRead (B.drop a.toNat)).1.1 := by
  rw [hp]; cases k with
  | zero =>
    exfalso
    have := secRead_bounds (B.drop a.toNat)
    have h3 := this.2.2.1 (by simpa using h)
    simp only [List.length_drop] at this
    omega
  | succ k => rw [scanS, if_neg (fun q => q.elim h h2)]; rfl
theorem sec_at (B : Bytes) {a : Int} (h : 0 ≤ a) (h2 : a ≤ B.length) : 0 ≤ (secRead (B.drop a.toNat)).2.1 ∧ a + (secRead (B.drop a.toNat)).2.1 ≤ B.length := by
  have := secRead_bounds (B.drop a.toNat)
  simp only [List.length_drop] at this
  omega
end
theorem scanS_bounds {B : Bytes} : ∀ {k : Nat} {out : List DSection} {a ep : Int}, 0 ≤ a → a ≤ B.length → a ≤ (scanS k B out a ep).2 ∧ (scanS k B out a ep).2 ≤ B.length ∧ (scanS k B out a ep).1.length ≤ out.length + k ∧ ((∀ s ∈ out, sectCheck s = 0) → ∀ s ∈ (scanS k B out a ep).1, sectCheck s = 0)
  | 0, out, a, ep, h, h2 => ⟨Int.le_refl _, h2, Nat.le_refl _, fun h => h⟩
  | k + 1, out, a, ep, h, h2 => by
    unfold scanS
    split
    · exact ⟨Int.le_refl _, h2, by dsimp only; omega, fun h => h⟩
    · rename_i h3
      have hb := sec_at B h h2
      have ih := scanS_bounds (k := k) (out := out ++ [(secRead (B.drop a.toNat)).1]) (ep := (secRead (B.drop a.toNat)).1.1) (a := a + (secRead (B.drop a.toNat)).2.1) (by omega) hb.2
      simp only [List.length_append, List.length_cons, List.length_nil] at ih
      refine ⟨by omega, ih.2.1, by omega, fun hs => ih.2.2.2 fun s hs2 => ?_⟩
      rcases List.mem_append.1 hs2 with q | q
      · exact hs s q
      · simp only [List.mem_cons, List.not_mem_nil, or_false] at q; subst q
        exact ((secRead_bounds (B.drop a.toNat)).2.2.1 (by simpa using fun q => h3 (.inl q))).2
theorem scanF_bounds (B : Bytes) : 0 ≤ (scanF B).2 ∧ (scanF B).2 ≤ B.length ∧ (scanF B).1.length ≤ B.length ∧ ∀ s ∈ (scanF B).1, sectCheck s = 0 := by
  have := scanS_bounds (B := B) (k := B.length) (out := []) (a := 0) (ep := 0) (Int.le_refl _) (by omega)
  exact ⟨this.1, this.2.1, by have h := this.2.2.1; rw [List.length_nil, Nat.zero_add] at h; exact h, this.2.2.2 fun _ h => by cases h⟩
def lastEp (ep : Int) (l : List DSection) : Int := match l.getLast? with
  | some s => s.1
  | none => ep
/-- is a commit in one of the sections? -/
def hasS (l : List DSection) (e n : Int) : Bool := l.any fun s => s.2.2.any fun c => decide (c.1 = e ∧ c.2.1 = n)
section
variable {s : DSection} {b : Bytes} {k : Nat} {x : DCommit}
theorem senc_headA (h : sectCheck s = 0) : fAppend [] (venc s.1.toNat ++ venc s.2.1.toNat ++ venc s.2.2.length) = (fEnc (sectHead s), 0) := by
  have h1 := sectHead_len h
  have e : venc s.1.toNat ++ venc s.2.1.toNat ++ venc s.2.2.length = sectHead s := List.append_assoc ..
  rw [e, fAppend_good (by omega)]; rfl
theorem senc_head0 (h : sectCheck s = 0) : (fAppend [] (venc s.1.toNat ++ venc s.2.1.toNat ++ venc s.2.2.length)).2 = 0 := by rw [senc_headA h]
theorem senc_head1 (h : sectCheck s = 0) : (fAppend [] (venc s.1.toNat ++ venc s.2.1.toNat ++ venc s.2.2.length)).1 ++ cFrames (s.2.2.drop 0) = sectEnc s := by rw [senc_headA h]; rfl
theorem senc_head2 (h : sectCheck s = 0) : (fAppend [] (venc s.1.toNat ++ venc s.2.1.toNat ++ venc s.2.2.length)).1.length ≤ 40 + 710 * 0 := by
  have h1 := sectHead_len h
  have := fEnc_len (r := sectHead s) (by omega)
  rw [senc_headA h]; dsimp only; omega
theorem senc_one (h : sectCheck s = 0) (hx : s.2.2[k]? = some x) : cCheck x = 0 ∧ fAppend b (cEncode x).1 = (b ++ cFrame x, 0) := by
  have h1 := sect_commits h x (List.mem_of_getElem? hx)
  have h2 := cEnc_len h1
  refine ⟨h1, ?_⟩
  unfold cEncode; rw [if_pos h1]; dsimp only
  rw [fAppend_good (by omega)]; rfl
theorem senc_step0 (h : sectCheck s = 0) (hx : s.2.2[k]? = some x) : (fAppend b (cEncode x).1).2 = 0 := by rw [(senc_one h hx).2]
theorem senc_step1 (h : sectCheck s = 0) (hb : b ++ cFrames (s.2.2.drop k) = sectEnc s) (hx : s.2.2[k]? = some x) : (fAppend b (cEncode x).1).1 ++ cFrames (s.2.2.drop (k + 1)) = sectEnc s := by
  rw [(senc_one h hx).2, ← hb, drop_next hx, cFrames_cons, List.append_assoc]
theorem senc_step2 (h : sectCheck s = 0) (hl : b.length ≤ 40 + 710 * k) (hx : s.2.2[k]? = some x) : (fAppend b (cEncode x).1).1.length ≤ 40 + 710 * (k + 1) := by
  have := cFrame_len (senc_one (b := b) h hx).1
  rw [(senc_one h hx).2]; simp only [List.length_append]; omega
end
end
section
set_option linter.unusedVariables false
section
variable {d : DDisk} {f n : Int} {b : Bytes}
theorem read_err (d : DDisk) : (dRead d 3).2 = wrongD d := by
  unfold dRead; split
  · rfl
  · rename_i h; rw [if_neg (by decide)]; exact (Decidable.not_not.1 h).symm
theorem read_held {f : Int} (h : wrongD d = 0) (hf : inF f) : dRead d f = (heldB d.2.2.2.2.2.1 d.2.2.2.2.2.2 f, 0) := by
  unfold dRead; rw [if_neg (by rw [h]; decide), if_neg (Decidable.not_not.2 hf)]
end
/-- cut to a base where there is more -/
def trimD (d : DDisk) (f base : Int) : DDisk × Int := if base < (heldB d.2.2.2.2.2.1 d.2.2.2.2.2.2 f).length then dCut d f base else (d, 0)
def putD (d : DDisk) (f : Int) (b : Bytes) : DDisk × Int := if ¬ (dWrite d f b).2 = 0 then dWrite d f b else dSync (dWrite d f b).1
def orphW (d : DDisk) (base : Int) (s : DSection) : DDisk × Int :=
  if ¬ wrongD d = 0 then (d, wrongD d) else if ¬ sectCheck s = 0 then (d, sectCheck s) else if base < 0 ∨ ((heldB d.2.2.2.2.2.1 d.2.2.2.2.2.2 3).length : Int) < base then (d, 2) else
    if ¬ (trimD d 3 base).2 = 0 then trimD d 3 base else putD (trimD d 3 base).1 3 (sectEnc s)
section
variable {d : DDisk} {base : Int} {s : DSection}
theorem ow_bad1 (h : ¬ (dRead d 3).2 = 0) : orphW d base s = (d, (dRead d 3).2) := by rw [read_err] at h ⊢; exact if_pos h
theorem ow_ok (h : ¬ ¬ (dRead d 3).2 = 0) : wrongD d = 0 ∧ dRead d 3 = (heldB d.2.2.2.2.2.1 d.2.2.2.2.2.2 3, 0) := by
  rw [read_err] at h
  have h0 := Decidable.not_not.1 h
  exact ⟨h0, read_held h0 (by decide)⟩
theorem enc_err (s : DSection) : (sectEncode s).2 = sectCheck s := by unfold sectEncode; split <;> simp [*]
theorem ow_bad2 (h : ¬ ¬ (dRead d 3).2 = 0) (h2 : ¬ (sectEncode s).2 = 0) : orphW d base s = (d, (sectEncode s).2) := by
  have := ow_ok h; rw [enc_err] at h2 ⊢
  unfold orphW; rw [if_neg (by rw [this.1]; decide), if_pos h2]
theorem ow_bad3 (h : ¬ ¬ (dRead d 3).2 = 0) (h2 : ¬ ¬ (sectEncode s).2 = 0) (h3 : base < 0 ∨ ((dRead d 3).1.length : Int) < base) : orphW d base s = (d, 2) := by
  have := ow_ok h; rw [enc_err] at h2; rw [this.2] at h3
  unfold orphW; rw [if_neg (by rw [this.1]; decide), if_neg h2, if_pos h3]
theorem ow_go (h : ¬ ¬ (dRead d 3).2 = 0) (h2 : ¬ ¬ (sectEncode s).2 = 0) (h3 : ¬ base < 0) (h4 : ¬ ((dRead d 3).1.length : Int) < base) :
    orphW d base s = if ¬ (trimD d 3 base).2 = 0 then trimD d 3 base else putD (trimD d 3 base).1 3 (sectEnc s) := by
  have := ow_ok h; rw [enc_err] at h2; rw [this.2] at h4
  unfold orphW; rw [if_neg (by rw [this.1]; decide), if_neg h2, if_neg (fun q => q.elim h3 h4)]
theorem trim_yes (h : ¬ ¬ (dRead d 3).2 = 0) (h5 : base < ((dRead d 3).1.length : Int)) : trimD d 3 base = dCut d 3 base := by
  have := ow_ok h; rw [this.2] at h5; exact if_pos h5
theorem trim_no (h : ¬ ¬ (dRead d 3).2 = 0) (h5 : ¬ base < ((dRead d 3).1.length : Int)) : trimD d 3 base = (d, 0) := by
  have := ow_ok h; rw [this.2] at h5; exact if_neg h5
theorem enc_is (h2 : ¬ ¬ (sectEncode s).2 = 0) : (sectEncode s).1 = sectEnc s := by rw [enc_err] at h2; rw [sectEncode_good h2]
theorem ow_cutbad (h : ¬ ¬ (dRead d 3).2 = 0) (h2 : ¬ ¬ (sectEncode s).2 = 0) (h3 : ¬ base < 0) (h4 : ¬ ((dRead d 3).1.length : Int) < base) (h5 : base < ((dRead d 3).1.length : Int)) (h6 : ¬ (dCut d 3 base).2 = 0) : orphW d base s = dCut d 3 base := by
  rw [ow_go h h2 h3 h4, trim_yes h h5, if_pos h6]
theorem ow_wbad1 (h : ¬ ¬ (dRead d 3).2 = 0) (h2 : ¬ ¬ (sectEncode s).2 = 0) (h3 : ¬ base < 0) (h4 : ¬ ((dRead d 3).1.length : Int) < base) (h5 : base < ((dRead d 3).1.length : Int)) (h6 : ¬ ¬ (dCut d 3 base).2 = 0) (h7 : ¬ (dWrite (dCut d 3 base).1 3 (sectEncode s).1).2 = 0) : orphW d base s = dWrite (dCut d 3 base).1 3 (sectEncode s).1 := by
  rw [ow_go h h2 h3 h4, trim_yes h h5, if_neg h6, putD, ← enc_is h2, if_pos h7]
theorem ow_good1 (h : ¬ ¬ (dRead d 3).2 = 0) (h2 : ¬ ¬ (sectEncode s).2 = 0) (h3 : ¬ base < 0) (h4 : ¬ ((dRead d 3).1.length : Int) < base) (h5 : base < ((dRead d 3).1.length : Int)) (h6 : ¬ ¬ (dCut d 3 base).2 = 0) (h7 : ¬ ¬ (dWrite (dCut d 3 base).1 3 (sectEncode s).1).2 = 0) : orphW d base s = dSync (dWrite (dCut d 3 base).1 3 (sectEncode s).1).1 := by
  rw [ow_go h h2 h3 h4, trim_yes h h5, if_neg h6, putD, ← enc_is h2, if_neg h7]
theorem ow_wbad2 (h : ¬ ¬ (dRead d 3).2 = 0) (h2 : ¬ ¬ (sectEncode s).2 = 0) (h3 : ¬ base < 0) (h4 : ¬ ((dRead d 3).1.length : Int) < base) (h5 : ¬ base < ((dRead d 3).1.length : Int)) (h7 : ¬ (dWrite d 3 (sectEncode s).1).2 = 0) : orphW d base s = dWrite d 3 (sectEncode s).1 := by
  rw [ow_go h h2 h3 h4, trim_no h h5, if_neg (fun q => q rfl), putD, ← enc_is h2, if_pos h7]
theorem ow_good2 (h : ¬ ¬ (dRead d 3).2 = 0) (h2 : ¬ ¬ (sectEncode s).2 = 0) (h3 : ¬ base < 0) (h4 : ¬ ((dRead d 3).1.length : Int) < base) (h5 : ¬ base < ((dRead d 3).1.length : Int)) (h7 : ¬ ¬ (dWrite d 3 (sectEncode s).1).2 = 0) : orphW d base s = dSync (dWrite d 3 (sectEncode s).1).1 := by
  rw [ow_go h h2 h3 h4, trim_no h h5, if_neg (fun q => q rfl), putD, ← enc_is h2, if_neg h7]
theorem trim_ok {f : Int} (h : okD d) : okD (trimD d f base).1 := by unfold trimD; split <;> first | exact cut_ok h | exact h
theorem put_ok {f : Int} {b : Bytes} (h : okD d) : okD (putD d f b).1 := by unfold putD; split <;> first | exact write_ok h | exact sync_ok (write_ok h)
theorem orphW_ok (h : okD d) : okD (orphW d base s).1 := by
  unfold orphW; split
  · exact h
  · split
    · exact h
    · split
      · exact h
      · split
        · exact trim_ok h
        · exact put_ok (trim_ok h)
theorem trim_w {f : Int} (h : okD d) : wD (trimD d f base).1 ≤ wD d + 2 := by
  unfold trimD; split
  · exact cut_w h
  · show wD d ≤ _; omega
theorem put_w {f : Int} {b : Bytes} (h : okD d) : wD (putD d f b).1 ≤ wD d + 3 * b.length + 2 := by
  have h1 := write_w (f := f) (b := b) h
  unfold putD; split
  · omega
  · have := sync_w (write_ok (f := f) (b := b) h); omega
theorem orphW_w (h : okD d) : wD (orphW d base s).1 ≤ wD d + 3 * (sectEncode s).1.length + 4 := by
  unfold orphW; split
  · show wD d ≤ _; omega
  · split
    · show wD d ≤ _; omega
    · split
      · show wD d ≤ _; omega
      · rename_i h2 _
        have h1 := trim_w (f := 3) (base := base) h
        split
        · omega
        · have h3 := put_w (f := 3) (b := sectEnc s) (trim_ok (f := 3) (base := base) h)
          rw [sectEncode_good h2]; dsimp only; omega
end
end
section
section
variable {P : Program} {n : Nat} {w0 : World} {σ : Env} {Ω ΩS : Ctx} {ops : Array Oper} {K : Env → Ctx → Prop}
theorem VD.store {tt q : Nat} {ss : List (Nat × Bool)} {ty : TypeId} {pos : String} {af : Array Edge} {t : TypeId} {x y : Operand} {g off : Nat} {v : Value} {k : Nat} (i : Nat) {c : Array Value} {E : TypeId} {c' : List Value}
    (ho : ops[q]? = some ⟨none, .store t x y, ty, pos, af, none⟩)
    (hx : ev σ x = some (.pointer (some ⟨g, off, none⟩))) (hy : ev σ y = some v) (ht : tk P t = some (some k) ∨ (tk P t = some none ∧ k = 1)) (hk : Nat.beq v.cells.size k = true) (hn : nice v = true)
    (hm : cget Ω i = some (mone g (.cells c E (0, 0)))) (hl : Nat.ble (off + k) c.size = true) (hc : splice c.toList off v.cells.toList = c')
    (hS : ∀ W, Inv w0 (cset Ω i (mone g (.cells c'.toArray E (0, 0)))) W → Inv w0 ΩS W)
    (h : VD P n w0 ops ΩS tt ss σ (cset Ω i (mone g (.cells c'.toArray E (0, 0)))) K) : VD P n w0 ops ΩS tt ((q, false) :: ss) σ Ω K :=
  VD.s (fun _ => σ) ho (fun _ _ he => he) (.inl rfl) (Stp.store i hx hy ht hk hn hm (mone_self _ _) hl) (fun _ _ ⟨_, hΩ⟩ W hW => hS W (by rw [hΩ, mset_one, hc] at hW; exact hW)) (fun _ _ ⟨_, hΩ⟩ => by rw [hΩ, mset_one, hc]; exact h)
end
/-- what a slice of one's own was, is still to be read -/
def KeptA (sz : Nat) (m : Mem) (v : Value) (len : Nat) (cs : List Value) : Prop := ∃ A cap, v = .slice A len cap ∧ len ≤ cap ∧ cap ≤ maxLen ∧ ((len = 0 ∧ cs = []) ∨ ∃ g off, A = some ⟨g, off, none⟩ ∧ cellsAt m g off (len * sz) cs)
section
variable {P : Program} {n : Nat} {w0 : World} {σ : Env} {Ω ΩS : Ctx} {ops : Array Oper} {K : Env → Ctx → Prop}
variable {ty : TypeId} {pos : String} {af : Array Edge} {d : Option Tmp} {gd : Option (Nat × Bool)} {r : List Oper}
theorem Stp.appK {s x : Operand} {t xt e : TypeId} {sz b len k : Nat} {v xv : Value} {cs xs z : List Value} (i : Nat) {m m0 : Mem} (hsv : ev σ s = some v) (hxv : ev σ x = some xv) (ht : tsl P t = some (e, sz, b)) (hz : tz P e = some z) (hzl : z.length = sz)
    (hm : cget Ω i = some m) (hm0 : mle m0 m) (hown : OwnA sz m0 v len cs) (hs' : Src P Ω sz xt xv k xs) (h1 : ∀ u ∈ xs, u.oneCell' = true) (hml : len + k ≤ maxLen) (hb : (len + k) * b ≤ 140737488355328) (hb0 : b ≠ 0) :
    Stp P n w0 σ Ω ⟨d, .call { callee := .builtin .append, args := [s, x].toArray, argTypes := [t, xt].toArray }, ty, pos, af, gd⟩ (fun v' Ω' => ∃ m' mo, mle mo m' ∧ OwnA sz mo v' (len + k) (cs ++ xs) ∧ KeptA sz m' v len cs ∧ Ω' = cset Ω i m') := fun a W he hi K' Q hK => by
  have hs : SrcW P W sz xt xv k xs := hs'.w hi
  have hex : ∀ (res : Value) (W' : World), (Builtin.append_ #[t, xt] ty #[v, xv]).run P W = .ok res W' → (execOp a.eval ⟨d, .call { callee := .builtin .append, args := [s, x].toArray, argTypes := [t, xt].toArray }, ty, pos, af, gd⟩).run P W = .ok (.value res) W' := by
    intro res W' h
    simp [execOp, resolve, invoke, builtin, he.eval hsv, he.eval hxv, h]
  have grow : ∀ (A : Option Addr) (cap : Nat), v = .slice A len cap → (∀ W', W'.heap = W.heap → (Builtin.firstCells sz len (.slice A len cap)).run P W' = .ok cs.toArray W') → cap < len + k → KeptA sz m0 v len cs →
      (⟨d, .call { callee := .builtin .append, args := [s, x].toArray, argTypes := [t, xt].toArray }, ty, pos, af, gd⟩ : Oper).wp P a W K' Q := by
    intro A cap hv hold hgt hkp
    subst hv
    obtain ⟨ncap, rest, hn1, hn2, hr, hrun⟩ := append_grow ht hz hs ty hold hgt hml hb hb0
    unfold Oper.wp
    rw [hex _ _ hrun]
    have hl1 := hown.len_eq
    have hl2 := hs.len
    have hnew : ∀ q o, m0 q = some o → q ≠ W.heap.size := fun q o hq hqq => by
      subst hqq
      have := hi.at hm _ o (hm0 _ o hq)
      unfold wm at this
      simp at this
    have hdj : mdj m0 (mone W.heap.size (.cells (cs ++ xs ++ rest).toArray e (0, 0))) := fun q => by
      by_cases hq : q = W.heap.size
      · left
        cases hmq : m0 q with
        | none => rfl
        | some o => exact absurd hq (hnew q o hmq)
      · exact .inr (mone_ne _ hq)
    refine hK _ _ _ ⟨mun m0 (mone W.heap.size (.cells (cs ++ xs ++ rest).toArray e (0, 0))), mone W.heap.size (.cells (cs ++ xs ++ rest).toArray e (0, 0)), mle_un_right hdj, ?_, ?_, rfl⟩ (hi.set hm rfl rfl rfl (by simp) ?_ (mun_le (fun q o hq => ?_) (mone_le ?_)) fun g => ?_)
    · have hlen : (cs ++ xs ++ rest).length = ncap * sz := by
        simp only [List.length_append, hl1, hl2, hr, hzl, ← Nat.add_mul]
        congr 1; omega
      have := OwnA.row (sz := sz) W.heap.size 0 (len + k) ncap e (cs ++ xs ++ rest) (by rw [hlen]; omega) hn1 hn2
      rw [List.drop_zero, List.take_append_of_le_length (by simp [hl1, hl2, Nat.add_mul]), List.take_of_length_le (by simp [hl1, hl2, Nat.add_mul])] at this
      exact this
    · obtain ⟨A', c', e1, e2, e3, e4⟩ := hkp
      exact ⟨A', c', e1, e2, e3, e4.imp id fun ⟨g, off, q1, q2⟩ => ⟨g, off, q1, q2.mono (mle_un_left _ _)⟩⟩
    · exact (mout_le _ _).trans (wm_alloc W.drew _)
    · exact wm_alloc W.drew _ q o (hi.at hm q o (hm0 q o hq))
    · exact wm_alloc_new W.drew _
    · by_cases hg : g = W.heap.size
      · exact .inr (.inr (Nat.le_of_eq hg.symm))
      · cases hmg : m0 g with
        | none => left; unfold mun; rw [hmg]; exact mone_ne _ hg
        | some o => right; left; rw [hm0 g o hmg]; simp
  cases hown with
  | nil A =>
    by_cases hk : k = 0
    · subst hk
      have hx : xs = [] := List.eq_nil_of_length_eq_zero (by simpa using hs.len)
      subst hx
      unfold Oper.wp
      rw [hex (.slice A 0 0) W (by rw [append_eq ht hs ty (by omega)]; cases A <;> rfl)]
      exact hK _ _ _ ⟨mnil, mnil, mle_refl _, .nil A, ⟨A, 0, rfl, Nat.le_refl _, Nat.zero_le _, .inl ⟨rfl, rfl⟩⟩, rfl⟩ (hi.set hm rfl rfl rfl (Nat.le_refl _) (mout_le _ _) (mle_nil _) fun g => .inl rfl)
    · exact grow A 0 rfl (fun W' _ => by cases A <;> simp [Builtin.firstCells, loadCells, loadCellsFrom]) (by omega) ⟨A, 0, rfl, Nat.le_refl _, Nat.zero_le _, .inl ⟨rfl, rfl⟩⟩
  | row g off len cap E c h1' h2' h3' =>
    have hmul0 := Nat.mul_le_mul_right sz h2'
    have kept0 : ∀ c2 : List Value, c2.length = c.length → (c2.drop off).take (len * sz) = (c.drop off).take (len * sz) → KeptA sz (mone g (.cells c2.toArray E (0, 0))) (.slice (some ⟨g, off, none⟩) len cap) len ((c.drop off).take (len * sz)) := fun c2 hl hc =>
      ⟨_, _, rfl, h2', h3', .inr ⟨g, off, rfl, c2.toArray, E, (0, 0), mone_self _ _, by simp; omega, by simp [hc]⟩⟩
    by_cases hle : len + k ≤ cap
    · have hg := hi.at hm g _ (hm0 g _ (mone_self _ _))
      have hmul := Nat.mul_le_mul_right sz hle
      have hl2 := hs.len
      obtain ⟨W', hrun, ho, htp, hu, hsz, hfar, hgg⟩ := setCells_heap (P := P) xs W g (off + len * sz) c.toArray E (0, 0) hg (by simp [hl2]; rw [Nat.add_mul] at hmul; omega) (Nat.le_refl _) h1 0 (off + len * sz) rfl
      unfold Oper.wp
      rw [hex (.slice (some ⟨g, off, none⟩) (len + k) cap) W' (by rw [append_eq ht hs ty hle]; simp only [add_off, hrun]; rfl)]
      have hsl : splice c (off + len * sz) xs = c.take (off + len * sz) ++ (xs ++ c.drop (off + len * sz + xs.length)) := rfl
      have hlc : (splice c (off + len * sz) xs).length = c.length := by rw [hsl]; simp [hl2]; rw [Nat.add_mul] at hmul; omega
      have e0 : List.drop off (splice c (off + len * sz) xs) = List.take (len * sz) (List.drop off c) ++ (xs ++ c.drop (off + len * sz + xs.length)) := by
        rw [hsl, List.drop_append_of_le_length (by simp; rw [Nat.add_mul] at hmul; omega)]
        congr 1
        rw [List.drop_take]; congr 1; omega
      refine hK _ _ _ ⟨mone g (.cells (splice c (off + len * sz) xs).toArray E (0, 0)), mone g (.cells (splice c (off + len * sz) xs).toArray E (0, 0)), mle_refl _, ?_, kept0 _ hlc ?_, rfl⟩ (hi.set hm ho htp hu (Nat.le_of_eq hsz.symm) ?_ (mone_le hgg) fun g' => ?_)
      · have := OwnA.row (sz := sz) g off (len + k) cap E (splice c (off + len * sz) xs) (by rw [hlc]; exact h1') hle h3'
        have e1 : List.take ((len + k) * sz) (List.drop off (splice c (off + len * sz) xs)) = List.take (len * sz) (List.drop off c) ++ xs := by
          rw [e0, ← List.append_assoc]
          have e3 : (List.take (len * sz) (List.drop off c) ++ xs).length = (len + k) * sz := by
            rw [Nat.add_mul] at hmul ⊢
            simp [hl2]; omega
          rw [← e3]
          exact List.take_left
        rw [e1] at this
        exact this
      · rw [e0]
        have e3 : (List.take (len * sz) (List.drop off c)).length = len * sz := by simp; omega
        rw [List.take_append_of_le_length (by omega), List.take_of_length_le (by omega)]
      · intro q o h
        unfold mout at h
        split at h
        · cases h
        · rename_i hn
          have hne : q ≠ g := by rintro rfl; rw [hm0 _ _ (mone_self _ _)] at hn; cases hn
          unfold wm at h ⊢
          rw [hfar q hne]; exact h
      · by_cases hgg' : g' = g
        · subst hgg'; right; left; rw [hm0 _ _ (mone_self _ _)]; simp
        · exact .inl (mone_ne _ hgg')
    · refine grow (some ⟨g, off, none⟩) cap rfl (fun W' hW' => ?_) (by omega) (kept0 c rfl rfl)
      have hg := hi.at hm g _ (hm0 g _ (mone_self _ _))
      have hmul := Nat.mul_le_mul_right sz h2'
      refine run_loadCells' ⟨c.toArray, E, (0, 0), ?_, by simp; omega, rfl⟩
      unfold wm at hg ⊢
      rw [hW']; exact hg
theorem VO.appK {s x : Operand} {t xt e : TypeId} {sz b len k dd : Nat} {v xv : Value} {cs xs z : List Value} (i : Nat) {m m0 : Mem} (hd : Nat.blt dd n = true) (hsv : ev σ s = some v) (hxv : ev σ x = some xv) (ht : tsl P t = some (e, sz, b)) (hz : tz P e = some z) (hzl : z.length = sz)
    (hm : cget Ω i = some m) (hm0 : mle m0 m) (hown : OwnA sz m0 v len cs) (hs : Src P Ω sz xt xv k xs) (h1 : ∀ u ∈ xs, u.oneCell' = true) (hml : len + k ≤ maxLen) (hb : (len + k) * b ≤ 140737488355328) (hb0 : b ≠ 0)
    (h : ∀ v' m' mo, mle mo m' → OwnA sz mo v' (len + k) (cs ++ xs) → KeptA sz m' v len cs → VO P n w0 ops r ((dd, v') :: σ) (cset Ω i m') K) :
    VO P n w0 ops (⟨some dd, .call { callee := .builtin .append, args := [s, x].toArray, argTypes := [t, xt].toArray }, ty, pos, af, none⟩ :: r) σ Ω K :=
  VO.s hd (Stp.appK i hsv hxv ht hz hzl hm hm0 hown hs h1 hml hb hb0) fun v' _ ⟨m', mo, h0, hp, hk, hΩ⟩ => hΩ ▸ h v' m' mo h0 hp hk
end
theorem KeptA.rd {e : Ty} {m : Mem} {A : Option Addr} {c : Nat} {cs : List Value} {xs : List e.Den} (h : KeptA e.sz m (.slice A xs.length c) xs.length cs) (hc : All2c (Rd e m) cs xs) : Rd (.sl e) m [.slice A xs.length c] xs := by
  obtain ⟨A', c', h1, h2, h3, h4⟩ := h
  simp only [Value.slice.injEq, true_and] at h1
  obtain ⟨rfl, rfl⟩ := h1
  refine ⟨_, _, rfl, h2, h3, ?_⟩
  rcases h4 with ⟨h4, _⟩ | ⟨g, off, h4, h5⟩
  · exact .inl h4
  · exact .inr ⟨g, off, cs, h4, h5, hc⟩
end
end Go.Proofs.Ytbjkfnnabnacfaa
