/- Part 5 of the proof of LShipHello: what it needs of the library, the walks and the plain laws. Conditions: those named in each theorem. -/
import Derived.Test.YtfaknkkaegjdaaaLShipHelloM4
namespace Go.Proofs.Ytfaknkkaegjdaaa
section
set_option linter.unusedVariables false
set_option linter.unusedSimpArgs false
set_option maxRecDepth 4000
theorem fnOk88 : fnOk Try.prog 88 = true := by kernel_rfl
theorem fnOk89 : fnOk Try.prog 89 = true := by kernel_rfl
theorem fnOk90 : fnOk Try.prog 90 = true := by kernel_rfl
theorem fnOk92 : fnOk Try.prog 92 = true := by kernel_rfl
set_option maxHeartbeats 1000000 in
theorem shipHelloLaw_ok (W : World) {v0 : Value} {d0 : List DCommit} (h0 : Rd (.sl TCommit) (wm W) [v0] d0) (d1 : Int) (h1 : inK .i64 d1) (d2 : Int) (h2 : inK .i64 d2) : CallR Try.prog 22 [v0, .int .i64 d1, .int .i64 d2] W (mnil) (fun v m' => v = .bool true) := by
  obtain ⟨A0, c0, rfl, l0, k0⟩ := h0.slice
  simp only [maxLen] at k0
  have h1' := h1; simp only [inK] at h1'
  have h2' := h2; simp only [inK] at h2'
  refine CallR.ofA (n := 132) Try.func22 rfl rfl rfl ?_
  refine VC.rs ?_
  refine VO.as ?_
  refine VO.k4 0 1 2 6 ?_
  refine VC.seq ?_
  refine VC.rs ?_
  refine VO.callN 101 rfl fnOk70 rfl (fun W hW => lives17_ok W ) (fun v1 m1 hv1 => ?_)
  subst hv1
  refine VO.y rfl (.not rfl) ?_
  refine VO.k5 0 1 2 6 20 ?_
  refine VC.condF rfl ?_
  refine VC.skip ?_
  refine outN ?_
  refine VC.seq ?_
  refine VC.rs ?_
  refine VO.mv ?_
  refine VO.callN 102 rfl fnOk72 rfl (fun W hW => small17_ok W (Rd.mono h0 (hW.at (i := 0) rfl))) (fun v2 m2 hv2 => ?_)
  subst hv2
  refine VO.y rfl (.notD rfl) ?_
  refine VO.mv ?_
  refine VO.dec (t := 24) rfl (fun hc3 => ?_) (fun hc3 => ?_)
  · -- T
    refine VO.gN ?_
    refine VO.gN ?_
    refine VO.gN ?_
    refine VO.gN ?_
    refine VO.y rfl (.pT rfl rfl) ?_
    refine VO.keep [0] [(0, wm W)] (by kernel_rfl) ?_
    refine VO.k6 0 1 2 6 20 29 ?_
    refine VC.condT rfl ?_
    refine VC.rs ?_
    refine VO.as ?_
    refine VO.k6 0 1 2 6 20 29 ?_
    refine VC.ret ?_
    refine outR ?_
    refine ⟨_, _, res_run (rs := [.tmp 6]) rfl (.tmp rfl .nil), fun W_ hI => out_of (l := []) hI [] rfl rfl (mle_refl _) (fun hS_ => ?_)⟩
    dsimp only [packV]
    all_goals (first | rfl | ((first | have hE := lastE_of ‹d0[_]? = some _› (by omega) | have hE := lastE_nil (l := d0) (by omega)); exact congrArg Value.bool (decide_eq_true (by have h_ := (hello_lCheck (l := d0) (r := 1 + pickI d2 3) (by omega) (by omega)).1; rw [hE] at h_; rw [h_]))))
  · -- F
    refine VO.gy rfl ⟨_, rfl, rfl⟩ (.mv rfl) ?_
    refine VO.gcallN 104 rfl ⟨_, rfl, rfl⟩ fnOk52 rfl (fun W hW => follows_ok W 0 bdk 0 bdk (Rd.mono h0 (hW.at (i := 0) rfl))) (fun v4 m4 hv4 => ?_)
    obtain ⟨s4_0, rfl, f4_0⟩ := hv4
    obtain ⟨rfl, q4_0_0, q4_0_1⟩ := open_Fault (x0 := (cFollows 0 0 d0).1) (x1 := (cFollows 0 0 d0).2) (f4_0.rd (mle_refl _))
    simp only [inK] at q4_0_0
    simp only [inK] at q4_0_1
    refine VO.gy rfl ⟨_, rfl, rfl⟩ (.bst (cs := [Value.int .i64 (0), Value.int .i64 (0)]) rfl tst57 tz57 rfl) ?_
    refine VO.gy rfl ⟨_, rfl, rfl⟩ (.stneq (p := ((cFollows 0 0 d0).1) = 0 ∧ ((cFollows 0 0 d0).2) = 0) rfl rfl (teq57 ((cFollows 0 0 d0).1) ((cFollows 0 0 d0).2)) (teq57 0 0) (by simp [ceq, ba_toList])) ?_
    refine VO.y rfl (.pF rfl rfl) ?_
    refine VO.keep [0] [(0, wm W)] (by kernel_rfl) ?_
    refine VO.k6 0 1 2 6 20 29 ?_
    refine VC.cond rfl (fun hc5 => ?_) (fun hc5 => ?_)
    · -- FT
      refine VC.rs ?_
      refine VO.as ?_
      refine VO.k6 0 1 2 6 20 29 ?_
      refine VC.ret ?_
      refine outR ?_
      refine ⟨_, _, res_run (rs := [.tmp 6]) rfl (.tmp rfl .nil), fun W_ hI => out_of (l := []) hI [] rfl rfl (mle_refl _) (fun hS_ => ?_)⟩
      dsimp only [packV]
      all_goals (first | rfl | ((first | have hE := lastE_of ‹d0[_]? = some _› (by omega) | have hE := lastE_nil (l := d0) (by omega)); exact congrArg Value.bool (decide_eq_true (by have h_ := (hello_lCheck (l := d0) (r := 1 + pickI d2 3) (by omega) (by omega)).1; rw [hE] at h_; rw [h_]))))
    · -- FF
      refine VC.skip ?_
      refine outN ?_
      refine VC.rs ?_
      refine VO.as ?_
      refine VO.k7 0 1 2 6 7 20 29 ?_
      refine VC.seq ?_
      refine VC.rs ?_
      refine VO.mv ?_
      refine VO.y rfl (.lenS rfl tsl61) ?_
      refine VO.y rfl (.gtr rfl rfl) ?_
      refine VO.k8 0 1 2 6 7 20 29 32 ?_
      refine VC.cond rfl (fun hc6 => ?_) (fun hc6 => ?_)
      · -- FFT
        refine VC.reg ?_
        refine VO.mv ?_
        refine VO.mv ?_
        refine VO.y rfl (.lenS rfl tsl61) ?_
        refine VO.y rfl (.sub rfl rfl rfl ⟨bd, bd⟩) ?_
        obtain ⟨x7, hx7⟩ : ∃ z_, (d0)[(((d0.length : Nat) : Int) - 1).toNat]? = some z_ := ⟨_, List.getElem?_eq_getElem bd⟩
        obtain ⟨gg7, oo7, ec7, ea7, hce7, hre7⟩ := h0.elem hx7
        cases ea7
        obtain ⟨q7_A2, q7_c2, rfl, q7_0, q7_1, q7_2⟩ := open_Commit (x0 := x7.1) (x1 := x7.2.1) (x2 := x7.2.2) hre7
        simp only [inK] at q7_0
        simp only [inK] at q7_1
        have q7_r2 := Rd.room q7_2
        refine VO.y rfl (.ixI ((((d0.length : Nat) : Int) - 1).toNat) rfl rfl tsl61 bd bd) ?_
        refine VO.y rfl (.fa rfl tst52 rfl) ?_
        refine VO.y rfl (.ld1 0 rfl tk3 rfl (hce7.at1 (j := 0) rfl)) ?_
        refine VO.as ?_
        refine VO.keep [0] [(0, wm W)] (by kernel_rfl) ?_
        refine VO.k8 0 1 2 6 7 20 29 32 ?_
        refine outN ?_
        refine VC.rs ?_
        refine VO.mv ?_
        refine VO.mv ?_
        refine VO.callN 108 rfl fnOk43 rfl (fun W hW => pick_ok W d2 bdk 3 bdk bd) (fun v8 m8 hv8 => ?_)
        subst hv8
        have hfa9 := pickI_bounds d2 3 (by omega)
        refine VO.y rfl (.add rfl rfl rfl ⟨bd, bd⟩) ?_
        refine VO.y rfl (.cvI rfl ⟨_, Try.underlying3⟩ Try.underlying69 (IntWalk.u8_in _ bd)) ?_
        refine VO.mv ?_
        refine VO.callN 110 rfl fnOk67 rfl (fun W hW => hello_ok W x7.1 bdk (1 + (pickI d2 3)) bdk (Rd.mono h0 (hW.at (i := 0) rfl)) bd) (fun v10 m10 hv10 => ?_)
        obtain ⟨s10_0, rfl, f10_0⟩ := hv10
        obtain ⟨q10_0_A4, q10_0_c4, q10_0_A7, q10_0_c7, q10_0_n4, q10_0_n7, rfl, q10_0_S, q10_0_0, q10_0_1, q10_0_2, q10_0_3, q10_0_4, q10_0_5, q10_0_6, q10_0_7⟩ := openO_Message (x0 := ((shipHello x7.1 (1 + (pickI d2 3)) d0).1).1) (x1 := ((shipHello x7.1 (1 + (pickI d2 3)) d0).1).2.1) (x2 := ((shipHello x7.1 (1 + (pickI d2 3)) d0).1).2.2.1) (x3 := ((shipHello x7.1 (1 + (pickI d2 3)) d0).1).2.2.2.1) (x4 := ((shipHello x7.1 (1 + (pickI d2 3)) d0).1).2.2.2.2.1) (x5 := ((shipHello x7.1 (1 + (pickI d2 3)) d0).1).2.2.2.2.2.1) (x6 := ((shipHello x7.1 (1 + (pickI d2 3)) d0).1).2.2.2.2.2.2.1) (x7 := ((shipHello x7.1 (1 + (pickI d2 3)) d0).1).2.2.2.2.2.2.2) f10_0
        simp only [inK] at q10_0_0
        simp only [inK] at q10_0_1
        simp only [inK] at q10_0_2
        simp only [inK] at q10_0_3
        have q10_0_r4 := Rd.room (q10_0_4.rd (mle_refl _))
        simp only [inK] at q10_0_5
        simp only [inK] at q10_0_6
        have q10_0_r7 := Rd.room (q10_0_7.rd (mle_refl _))
        refine VO.inv _ (fun _ h => h.parts (i := 110) rfl q10_0_S [111, 112]) ?_
        refine VO.mv ?_
        refine VO.y rfl (.ext rfl rfl) ?_
        refine VO.y rfl (.ext rfl rfl) ?_
        refine VO.alloc 114 rfl tz72 (fun g13 => ?_)
        refine VO.store (k := 8) (c' := [Value.int .i64 (((shipHello x7.1 (1 + (pickI d2 3)) d0).1).1), Value.int .i64 (((shipHello x7.1 (1 + (pickI d2 3)) d0).1).2.1), Value.int .u8 (((shipHello x7.1 (1 + (pickI d2 3)) d0).1).2.2.1), Value.int .i64 (((shipHello x7.1 (1 + (pickI d2 3)) d0).1).2.2.2.1), Value.slice q10_0_A4 ((((shipHello x7.1 (1 + (pickI d2 3)) d0).1).2.2.2.2.1).length) (q10_0_c4), Value.int .i64 (((shipHello x7.1 (1 + (pickI d2 3)) d0).1).2.2.2.2.2.1), Value.int .i64 (((shipHello x7.1 (1 + (pickI d2 3)) d0).1).2.2.2.2.2.2.1), Value.slice q10_0_A7 ((((shipHello x7.1 (1 + (pickI d2 3)) d0).1).2.2.2.2.2.2.2).length) (q10_0_c7)]) 114 rfl rfl (.inl tk72) rfl rfl rfl rfl rfl ?_
        refine VO.as ?_
        refine VO.k10 0 1 2 6 7 8 9 20 29 32 ?_
        refine VC.rs ?_
        refine VO.y rfl (.ldA 114 rfl tk72 rfl (cellsAt_one rfl rfl)) ?_
        refine VO.callN 115 rfl fnOk88 rfl (fun W hW => lEncode_ok W (show Rd TMessage _ _ ((shipHello x7.1 (1 + (pickI d2 3)) d0).1) from (mk_Message (m := wm W) (((shipHello x7.1 (1 + (pickI d2 3)) d0).1).1) (((shipHello x7.1 (1 + (pickI d2 3)) d0).1).2.1) (((shipHello x7.1 (1 + (pickI d2 3)) d0).1).2.2.1) (((shipHello x7.1 (1 + (pickI d2 3)) d0).1).2.2.2.1) (((shipHello x7.1 (1 + (pickI d2 3)) d0).1).2.2.2.2.1) (((shipHello x7.1 (1 + (pickI d2 3)) d0).1).2.2.2.2.2.1) (((shipHello x7.1 (1 + (pickI d2 3)) d0).1).2.2.2.2.2.2.1) (((shipHello x7.1 (1 + (pickI d2 3)) d0).1).2.2.2.2.2.2.2) bdk bdk bdk bdk (OwnL.rd (Ow.ownl q10_0_4 rfl mnil) (hW.at (i := 111) rfl) (mle_nil _)) bdk bdk (Ow.rd q10_0_7 (hW.at (i := 112) rfl))))) (fun v15 m15 hv15 => ?_)
        obtain ⟨s15_0, rfl, f15_0⟩ := hv15
        have hfa16 := lEncode_len ((shipHello x7.1 (1 + (pickI d2 3)) d0).1)
        obtain ⟨A15_0, c15_0, eq15_0, l15_0, k15_0⟩ := f15_0.slice
        subst eq15_0
        simp only [maxLen] at k15_0
        refine VO.mv ?_
        refine VO.y rfl (.ext rfl rfl) ?_
        refine VO.y rfl (.ext rfl rfl) ?_
        refine VO.as ?_
        refine VO.as ?_
        refine VO.k12 0 1 2 6 7 8 9 10 11 20 29 32 ?_
        refine VC.rs ?_
        refine VO.mv ?_
        refine VO.callN 117 rfl fnOk89 rfl (fun W hW => lDec_ok W (OwnL.rd (Ow.ownl f15_0 rfl mnil) (hW.at (i := 115) rfl) (mle_nil _))) (fun v17 m17 hv17 => ?_)
        obtain ⟨s17_0, rfl, f17_0⟩ := hv17
        have hfa18 := lDec_fits ((lEncode ((shipHello x7.1 (1 + (pickI d2 3)) d0).1)).1)
        obtain ⟨q17_0_A4, q17_0_c4, q17_0_A7, q17_0_c7, q17_0_n4, q17_0_n7, rfl, q17_0_S, q17_0_0, q17_0_1, q17_0_2, q17_0_3, q17_0_4, q17_0_5, q17_0_6, q17_0_7⟩ := openO_Message (x0 := ((lDec ((lEncode ((shipHello x7.1 (1 + (pickI d2 3)) d0).1)).1)).1).1) (x1 := ((lDec ((lEncode ((shipHello x7.1 (1 + (pickI d2 3)) d0).1)).1)).1).2.1) (x2 := ((lDec ((lEncode ((shipHello x7.1 (1 + (pickI d2 3)) d0).1)).1)).1).2.2.1) (x3 := ((lDec ((lEncode ((shipHello x7.1 (1 + (pickI d2 3)) d0).1)).1)).1).2.2.2.1) (x4 := ((lDec ((lEncode ((shipHello x7.1 (1 + (pickI d2 3)) d0).1)).1)).1).2.2.2.2.1) (x5 := ((lDec ((lEncode ((shipHello x7.1 (1 + (pickI d2 3)) d0).1)).1)).1).2.2.2.2.2.1) (x6 := ((lDec ((lEncode ((shipHello x7.1 (1 + (pickI d2 3)) d0).1)).1)).1).2.2.2.2.2.2.1) (x7 := ((lDec ((lEncode ((shipHello x7.1 (1 + (pickI d2 3)) d0).1)).1)).1).2.2.2.2.2.2.2) f17_0
        simp only [inK] at q17_0_0
        simp only [inK] at q17_0_1
        simp only [inK] at q17_0_2
        simp only [inK] at q17_0_3
        have q17_0_r4 := Rd.room (q17_0_4.rd (mle_refl _))
        simp only [inK] at q17_0_5
        simp only [inK] at q17_0_6
        have q17_0_r7 := Rd.room (q17_0_7.rd (mle_refl _))
        refine VO.inv _ (fun _ h => h.parts (i := 117) rfl q17_0_S [119, 120]) ?_
        refine VO.mv ?_
        refine VO.y rfl (.ext rfl rfl) ?_
        refine VO.y rfl (.ext rfl rfl) ?_
        refine VO.alloc 122 rfl tz72 (fun g21 => ?_)
        refine VO.store (k := 8) (c' := [Value.int .i64 (((lDec ((lEncode ((shipHello x7.1 (1 + (pickI d2 3)) d0).1)).1)).1).1), Value.int .i64 (((lDec ((lEncode ((shipHello x7.1 (1 + (pickI d2 3)) d0).1)).1)).1).2.1), Value.int .u8 (((lDec ((lEncode ((shipHello x7.1 (1 + (pickI d2 3)) d0).1)).1)).1).2.2.1), Value.int .i64 (((lDec ((lEncode ((shipHello x7.1 (1 + (pickI d2 3)) d0).1)).1)).1).2.2.2.1), Value.slice q17_0_A4 ((((lDec ((lEncode ((shipHello x7.1 (1 + (pickI d2 3)) d0).1)).1)).1).2.2.2.2.1).length) (q17_0_c4), Value.int .i64 (((lDec ((lEncode ((shipHello x7.1 (1 + (pickI d2 3)) d0).1)).1)).1).2.2.2.2.2.1), Value.int .i64 (((lDec ((lEncode ((shipHello x7.1 (1 + (pickI d2 3)) d0).1)).1)).1).2.2.2.2.2.2.1), Value.slice q17_0_A7 ((((lDec ((lEncode ((shipHello x7.1 (1 + (pickI d2 3)) d0).1)).1)).1).2.2.2.2.2.2.2).length) (q17_0_c7)]) 122 rfl rfl (.inl tk72) rfl rfl rfl rfl rfl ?_
        refine VO.as ?_
        refine VO.keep [122, 119, 120, 115, 114, 111, 112, 0] [(122, mone g21 (.cells [Value.int .i64 (((lDec ((lEncode ((shipHello x7.1 (1 + (pickI d2 3)) d0).1)).1)).1).1), Value.int .i64 (((lDec ((lEncode ((shipHello x7.1 (1 + (pickI d2 3)) d0).1)).1)).1).2.1), Value.int .u8 (((lDec ((lEncode ((shipHello x7.1 (1 + (pickI d2 3)) d0).1)).1)).1).2.2.1), Value.int .i64 (((lDec ((lEncode ((shipHello x7.1 (1 + (pickI d2 3)) d0).1)).1)).1).2.2.2.1), Value.slice q17_0_A4 ((((lDec ((lEncode ((shipHello x7.1 (1 + (pickI d2 3)) d0).1)).1)).1).2.2.2.2.1).length) (q17_0_c4), Value.int .i64 (((lDec ((lEncode ((shipHello x7.1 (1 + (pickI d2 3)) d0).1)).1)).1).2.2.2.2.2.1), Value.int .i64 (((lDec ((lEncode ((shipHello x7.1 (1 + (pickI d2 3)) d0).1)).1)).1).2.2.2.2.2.2.1), Value.slice q17_0_A7 ((((lDec ((lEncode ((shipHello x7.1 (1 + (pickI d2 3)) d0).1)).1)).1).2.2.2.2.2.2.2).length) (q17_0_c7)].toArray 72 (0, 0))), (119, q17_0_n4), (120, q17_0_n7), (115, m15), (114, mone g13 (.cells [Value.int .i64 (((shipHello x7.1 (1 + (pickI d2 3)) d0).1).1), Value.int .i64 (((shipHello x7.1 (1 + (pickI d2 3)) d0).1).2.1), Value.int .u8 (((shipHello x7.1 (1 + (pickI d2 3)) d0).1).2.2.1), Value.int .i64 (((shipHello x7.1 (1 + (pickI d2 3)) d0).1).2.2.2.1), Value.slice q10_0_A4 ((((shipHello x7.1 (1 + (pickI d2 3)) d0).1).2.2.2.2.1).length) (q10_0_c4), Value.int .i64 (((shipHello x7.1 (1 + (pickI d2 3)) d0).1).2.2.2.2.2.1), Value.int .i64 (((shipHello x7.1 (1 + (pickI d2 3)) d0).1).2.2.2.2.2.2.1), Value.slice q10_0_A7 ((((shipHello x7.1 (1 + (pickI d2 3)) d0).1).2.2.2.2.2.2.2).length) (q10_0_c7)].toArray 72 (0, 0))), (111, q10_0_n4), (112, q10_0_n7), (0, wm W)] (by kernel_rfl) ?_
        refine VO.k14 0 1 2 6 7 8 9 10 11 12 13 20 29 32 ?_
        refine VC.seq ?_
        refine VC.rs ?_
        refine VO.mv ?_
        refine VO.y rfl (.neq rfl rfl) ?_
        refine VO.mv ?_
        refine VO.dec (t := 62) rfl (fun hc23 => ?_) (fun hc23 => ?_)
        · -- FFTT
          exfalso; have hE : lastE d0 = (x7.1) := (by first | exact lastE_of ‹d0[_]? = some _› (by omega) | exact lastE_nil (l := d0) (by omega)); have hv : (cFollows 0 0 d0).1 = 0 := (by omega); have hb := hello_back (r := 1 + pickI d2 3) hv (by omega); rw [hE] at hb; exact hc23 hb.1
        · -- FFTF
          refine VO.gy rfl ⟨_, rfl, rfl⟩ (.mv rfl) ?_
          refine VO.gy rfl ⟨_, rfl, rfl⟩ (.neq rfl rfl) ?_
          refine VO.y rfl (.pF rfl rfl) ?_
          refine VO.mv ?_
          refine VO.dec (t := 66) rfl (fun hc24 => ?_) (fun hc24 => ?_)
          · -- FFTFT
            exfalso; have hE : lastE d0 = (x7.1) := (by first | exact lastE_of ‹d0[_]? = some _› (by omega) | exact lastE_nil (l := d0) (by omega)); have hv : (cFollows 0 0 d0).1 = 0 := (by omega); have hb := hello_back (r := 1 + pickI d2 3) hv (by omega); rw [hE] at hb; exact hc24 hb.2.1
          · -- FFTFF
            refine VO.gy rfl ⟨_, rfl, rfl⟩ (.mv rfl) ?_
            refine VO.gy rfl ⟨_, rfl, rfl⟩ (.neq rfl rfl) ?_
            refine VO.y rfl (.pF rfl rfl) ?_
            refine VO.mv ?_
            refine VO.dec (t := 70) rfl (fun hc25 => ?_) (fun hc25 => ?_)
            · -- FFTFFT
              exfalso; have hE : lastE d0 = (x7.1) := (by first | exact lastE_of ‹d0[_]? = some _› (by omega) | exact lastE_nil (l := d0) (by omega)); have hv : (cFollows 0 0 d0).1 = 0 := (by omega); have hb := hello_back (r := 1 + pickI d2 3) hv (by omega); rw [hE] at hb; exact hc25 (by rw [hb.2.2])
            · -- FFTFFF
              refine VO.gy rfl ⟨_, rfl, rfl⟩ (.ldA 122 rfl tk72 rfl (cellsAt_one rfl rfl)) ?_
              refine VO.gy rfl ⟨_, rfl, rfl⟩ (.ldA 114 rfl tk72 rfl (cellsAt_one rfl rfl)) ?_
              refine VO.gcallN 126 rfl ⟨_, rfl, rfl⟩ fnOk90 rfl (fun W hW => lSame_ok W (show Rd TMessage _ _ ((lDec ((lEncode ((shipHello x7.1 (1 + (pickI d2 3)) d0).1)).1)).1) from (mk_Message (m := wm W) (((lDec ((lEncode ((shipHello x7.1 (1 + (pickI d2 3)) d0).1)).1)).1).1) (((lDec ((lEncode ((shipHello x7.1 (1 + (pickI d2 3)) d0).1)).1)).1).2.1) (((lDec ((lEncode ((shipHello x7.1 (1 + (pickI d2 3)) d0).1)).1)).1).2.2.1) (((lDec ((lEncode ((shipHello x7.1 (1 + (pickI d2 3)) d0).1)).1)).1).2.2.2.1) (((lDec ((lEncode ((shipHello x7.1 (1 + (pickI d2 3)) d0).1)).1)).1).2.2.2.2.1) (((lDec ((lEncode ((shipHello x7.1 (1 + (pickI d2 3)) d0).1)).1)).1).2.2.2.2.2.1) (((lDec ((lEncode ((shipHello x7.1 (1 + (pickI d2 3)) d0).1)).1)).1).2.2.2.2.2.2.1) (((lDec ((lEncode ((shipHello x7.1 (1 + (pickI d2 3)) d0).1)).1)).1).2.2.2.2.2.2.2) bdk bdk bdk bdk (OwnL.rd (Ow.ownl q17_0_4 rfl mnil) (hW.at (i := 119) rfl) (mle_nil _)) bdk bdk (Ow.rd q17_0_7 (hW.at (i := 120) rfl)))) (show Rd TMessage _ _ ((shipHello x7.1 (1 + (pickI d2 3)) d0).1) from (mk_Message (m := wm W) (((shipHello x7.1 (1 + (pickI d2 3)) d0).1).1) (((shipHello x7.1 (1 + (pickI d2 3)) d0).1).2.1) (((shipHello x7.1 (1 + (pickI d2 3)) d0).1).2.2.1) (((shipHello x7.1 (1 + (pickI d2 3)) d0).1).2.2.2.1) (((shipHello x7.1 (1 + (pickI d2 3)) d0).1).2.2.2.2.1) (((shipHello x7.1 (1 + (pickI d2 3)) d0).1).2.2.2.2.2.1) (((shipHello x7.1 (1 + (pickI d2 3)) d0).1).2.2.2.2.2.2.1) (((shipHello x7.1 (1 + (pickI d2 3)) d0).1).2.2.2.2.2.2.2) bdk bdk bdk bdk (OwnL.rd (Ow.ownl q10_0_4 rfl mnil) (hW.at (i := 111) rfl) (mle_nil _)) bdk bdk (Ow.rd q10_0_7 (hW.at (i := 112) rfl))))) (fun v26 m26 hv26 => ?_)
              subst hv26
              refine VO.gy rfl ⟨_, rfl, rfl⟩ (.notD rfl) ?_
              refine VO.y rfl (.pF rfl rfl) ?_
              refine VO.k15 0 1 2 6 7 8 9 10 11 12 13 20 29 32 75 ?_
              refine VC.cond rfl (fun hc27 => ?_) (fun hc27 => ?_)
              · -- FFTFFFT
                exfalso; have hE : lastE d0 = (x7.1) := (by first | exact lastE_of ‹d0[_]? = some _› (by omega) | exact lastE_nil (l := d0) (by omega)); have hv : (cFollows 0 0 d0).1 = 0 := (by omega); have hb := hello_back (r := 1 + pickI d2 3) hv (by omega); rw [hE] at hb; exact hc27 (by rw [hb.2.2])
              · -- FFTFFFF
                refine VC.skip ?_
                refine outN ?_
                refine VC.rs ?_
                refine VO.mv ?_
                refine VO.mv ?_
                refine VO.y rfl (.lenS rfl tsl61) ?_
                refine VO.y rfl (.add (c := ((d0.length + 1 : Nat) : Int)) rfl rfl (by omega) ⟨bd, bd⟩) ?_
                refine VO.callN 128 rfl fnOk43 rfl (fun W hW => pick_ok W d1 bdk ((d0.length + 1 : Nat) : Int) bdk bd) (fun v28 m28 hv28 => ?_)
                subst hv28
                have hfa29 := pickI_bounds d1 ((d0.length + 1 : Nat) : Int) (by omega)
                refine VO.as ?_
                refine VO.k16 0 1 2 6 7 8 9 10 11 12 13 14 20 29 32 75 ?_
                refine VC.rs ?_
                refine VO.mv ?_
                refine VO.mv ?_
                have hs30 := h0.pre (j := ((pickI d1 ((d0.length + 1 : Nat) : Int)).toNat)) bd
                refine VO.y rfl (.slHI ((pickI d1 ((d0.length + 1 : Nat) : Int)).toNat) rfl rfl tsl61 bd bd) ?_
                refine VO.callN 131 rfl fnOk91 rfl (fun W hW => of_ok W (Rd.mono hs30 (hW.at (i := 0) rfl)) bd) (fun v31 m31 hv31 => ?_)
                obtain ⟨s31_0, s31_1, rfl, f31_0, f31_1⟩ := hv31
                obtain ⟨A31_0, c31_0, eq31_0, l31_0, k31_0⟩ := f31_0.slice
                subst eq31_0
                simp only [maxLen] at k31_0
                obtain ⟨rfl, q31_1_0, q31_1_1⟩ := open_Fault (x0 := ((sOf ((d0).take ((pickI d1 ((d0.length + 1 : Nat) : Int)).toNat))).2).1) (x1 := ((sOf ((d0).take ((pickI d1 ((d0.length + 1 : Nat) : Int)).toNat))).2).2) (f31_1.rd (mle_refl _))
                simp only [inK] at q31_1_0
                simp only [inK] at q31_1_1
                refine VO.mv ?_
                refine VO.y rfl (.ext rfl rfl) ?_
                refine VO.y rfl (.ext rfl rfl) ?_
                refine VO.alloc 133 rfl tz57 (fun g32 => ?_)
                refine VO.as ?_
                refine VO.store (k := 2) (c' := [Value.int .i64 (((sOf ((d0).take ((pickI d1 ((d0.length + 1 : Nat) : Int)).toNat))).2).1), Value.int .i64 (((sOf ((d0).take ((pickI d1 ((d0.length + 1 : Nat) : Int)).toNat))).2).2)]) 133 rfl rfl (.inl tk57) rfl rfl rfl rfl rfl ?_
                refine VO.keep [133, 131, 122, 119, 120, 115, 114, 111, 112, 0] [(133, mone g32 (.cells [Value.int .i64 (((sOf ((d0).take ((pickI d1 ((d0.length + 1 : Nat) : Int)).toNat))).2).1), Value.int .i64 (((sOf ((d0).take ((pickI d1 ((d0.length + 1 : Nat) : Int)).toNat))).2).2)].toArray 57 (0, 0))), (131, m31), (122, mone g21 (.cells [Value.int .i64 (((lDec ((lEncode ((shipHello x7.1 (1 + (pickI d2 3)) d0).1)).1)).1).1), Value.int .i64 (((lDec ((lEncode ((shipHello x7.1 (1 + (pickI d2 3)) d0).1)).1)).1).2.1), Value.int .u8 (((lDec ((lEncode ((shipHello x7.1 (1 + (pickI d2 3)) d0).1)).1)).1).2.2.1), Value.int .i64 (((lDec ((lEncode ((shipHello x7.1 (1 + (pickI d2 3)) d0).1)).1)).1).2.2.2.1), Value.slice q17_0_A4 ((((lDec ((lEncode ((shipHello x7.1 (1 + (pickI d2 3)) d0).1)).1)).1).2.2.2.2.1).length) (q17_0_c4), Value.int .i64 (((lDec ((lEncode ((shipHello x7.1 (1 + (pickI d2 3)) d0).1)).1)).1).2.2.2.2.2.1), Value.int .i64 (((lDec ((lEncode ((shipHello x7.1 (1 + (pickI d2 3)) d0).1)).1)).1).2.2.2.2.2.2.1), Value.slice q17_0_A7 ((((lDec ((lEncode ((shipHello x7.1 (1 + (pickI d2 3)) d0).1)).1)).1).2.2.2.2.2.2.2).length) (q17_0_c7)].toArray 72 (0, 0))), (119, q17_0_n4), (120, q17_0_n7), (115, m15), (114, mone g13 (.cells [Value.int .i64 (((shipHello x7.1 (1 + (pickI d2 3)) d0).1).1), Value.int .i64 (((shipHello x7.1 (1 + (pickI d2 3)) d0).1).2.1), Value.int .u8 (((shipHello x7.1 (1 + (pickI d2 3)) d0).1).2.2.1), Value.int .i64 (((shipHello x7.1 (1 + (pickI d2 3)) d0).1).2.2.2.1), Value.slice q10_0_A4 ((((shipHello x7.1 (1 + (pickI d2 3)) d0).1).2.2.2.2.1).length) (q10_0_c4), Value.int .i64 (((shipHello x7.1 (1 + (pickI d2 3)) d0).1).2.2.2.2.2.1), Value.int .i64 (((shipHello x7.1 (1 + (pickI d2 3)) d0).1).2.2.2.2.2.2.1), Value.slice q10_0_A7 ((((shipHello x7.1 (1 + (pickI d2 3)) d0).1).2.2.2.2.2.2.2).length) (q10_0_c7)].toArray 72 (0, 0))), (111, q10_0_n4), (112, q10_0_n7), (0, wm W)] (by kernel_rfl) ?_
                refine VO.k18 0 1 2 6 7 8 9 10 11 12 13 14 15 16 20 29 32 75 ?_
                refine VC.rs ?_
                refine VO.y rfl (.fa rfl tst72 rfl) ?_
                refine VO.y rfl (.ld1 122 rfl tk70 rfl (cellsAt_one rfl rfl)) ?_
                refine VO.y rfl (.fa rfl tst72 rfl) ?_
                refine VO.y rfl (.ld1 122 rfl tk3 rfl (cellsAt_one rfl rfl)) ?_
                refine VO.mv ?_
                refine VO.mv ?_
                refine VO.callN 134 rfl fnOk92 rfl (fun W hW => sFork_ok W (OwnL.rd (Ow.ownl q17_0_4 rfl mnil) (hW.at (i := 119) rfl) (mle_nil _)) (((lDec ((lEncode ((shipHello x7.1 (1 + (pickI d2 3)) d0).1)).1)).1).2.2.2.1) bdk (OwnL.rd (Ow.ownl f31_0 rfl mnil) (hW.at (i := 131) rfl) (mle_nil _)) (pickI d1 ((d0.length + 1 : Nat) : Int)) bdk (by (first | have hE := lastE_of ‹d0[_]? = some _› (by omega) | have hE := lastE_nil (l := d0) (by omega)); first | (have h_ := hello_self (log := d0) (r := 1 + pickI d2 3) (by omega) (by omega); rw [hE] at h_; exact h_) | (have h_ := hello_part (log := d0) (r := 1 + pickI d2 3) (by omega) (by omega) (n := (pickI d1 ((d0.length + 1 : Nat) : Int)).toNat) (by omega); rw [hE, Int.toNat_of_nonneg (by omega)] at h_; exact h_))) (fun v34 m34 hv34 => ?_)
                subst hv34
                refine VO.mv ?_
                refine VO.y rfl (.ext rfl rfl) ?_
                refine VO.y rfl (.ext rfl rfl) ?_
                refine VO.as ?_
                refine VO.as ?_
                refine VO.k19 0 1 2 6 7 8 9 10 11 12 13 14 15 16 17 20 29 32 75 ?_
                refine VC.rs ?_
                refine VO.y rfl (.fa rfl tst72 rfl) ?_
                refine VO.y rfl (.ld1 122 rfl tk70 rfl (cellsAt_one rfl rfl)) ?_
                refine VO.y rfl (.fa rfl tst72 rfl) ?_
                refine VO.y rfl (.ld1 122 rfl tk3 rfl (cellsAt_one rfl rfl)) ?_
                refine VO.y rfl (.fa rfl tst72 rfl) ?_
                refine VO.y rfl (.ld1 114 rfl tk70 rfl (cellsAt_one rfl rfl)) ?_
                refine VO.y rfl (.fa rfl tst72 rfl) ?_
                refine VO.y rfl (.ld1 114 rfl tk3 rfl (cellsAt_one rfl rfl)) ?_
                refine VO.callN 135 rfl fnOk92 rfl (fun W hW => sFork_ok W (OwnL.rd (Ow.ownl q17_0_4 rfl mnil) (hW.at (i := 119) rfl) (mle_nil _)) (((lDec ((lEncode ((shipHello x7.1 (1 + (pickI d2 3)) d0).1)).1)).1).2.2.2.1) bdk (OwnL.rd (Ow.ownl q10_0_4 rfl mnil) (hW.at (i := 111) rfl) (mle_nil _)) (((shipHello x7.1 (1 + (pickI d2 3)) d0).1).2.2.2.1) bdk (by (first | have hE := lastE_of ‹d0[_]? = some _› (by omega) | have hE := lastE_nil (l := d0) (by omega)); first | (have h_ := hello_self (log := d0) (r := 1 + pickI d2 3) (by omega) (by omega); rw [hE] at h_; exact h_) | (have h_ := hello_part (log := d0) (r := 1 + pickI d2 3) (by omega) (by omega) (n := (pickI d1 ((d0.length + 1 : Nat) : Int)).toNat) (by omega); rw [hE, Int.toNat_of_nonneg (by omega)] at h_; exact h_))) (fun v35 m35 hv35 => ?_)
                subst hv35
                refine VO.mv ?_
                refine VO.y rfl (.ext rfl rfl) ?_
                refine VO.y rfl (.ext rfl rfl) ?_
                refine VO.as ?_
                refine VO.as ?_
                refine VO.k20 0 1 2 6 7 8 9 10 11 12 13 14 15 16 17 18 20 29 32 75 ?_
                refine VC.rs ?_
                refine VO.y rfl (.ldA 133 rfl tk57 rfl (cellsAt_one rfl rfl)) ?_
                refine VO.y rfl (.bst (cs := [Value.int .i64 (0), Value.int .i64 (0)]) rfl tst57 tz57 rfl) ?_
                refine VO.y rfl (.steql (p := (((sOf ((d0).take ((pickI d1 ((d0.length + 1 : Nat) : Int)).toNat))).2).1) = 0 ∧ (((sOf ((d0).take ((pickI d1 ((d0.length + 1 : Nat) : Int)).toNat))).2).2) = 0) rfl rfl (teq57 (((sOf ((d0).take ((pickI d1 ((d0.length + 1 : Nat) : Int)).toNat))).2).1) (((sOf ((d0).take ((pickI d1 ((d0.length + 1 : Nat) : Int)).toNat))).2).2)) (teq57 0 0) (by simp [ceq, ba_toList])) ?_
                refine VO.mv ?_
                refine VO.dec (t := 113) rfl (fun hc36 => ?_) (fun hc36 => ?_)
                · -- FFTFFFFT
                  refine VO.gy rfl ⟨_, rfl, rfl⟩ (.mv rfl) ?_
                  refine VO.gy rfl ⟨_, rfl, rfl⟩ (.eql rfl rfl) ?_
                  refine VO.y rfl (.pT rfl rfl) ?_
                  refine VO.mv ?_
                  refine VO.dec (t := 117) rfl (fun hc37 => ?_) (fun hc37 => ?_)
                  · -- FFTFFFFTT
                    refine VO.gy rfl ⟨_, rfl, rfl⟩ (.mv rfl) ?_
                    refine VO.gy rfl ⟨_, rfl, rfl⟩ (.mv rfl) ?_
                    refine VO.gy rfl ⟨_, rfl, rfl⟩ (.eql rfl rfl) ?_
                    refine VO.y rfl (.pT rfl rfl) ?_
                    refine VO.mv ?_
                    refine VO.dec (t := 122) rfl (fun hc38 => ?_) (fun hc38 => ?_)
                    · -- FFTFFFFTTT
                      refine VO.gy rfl ⟨_, rfl, rfl⟩ (.mv rfl) ?_
                      refine VO.gy rfl ⟨_, rfl, rfl⟩ (.eql rfl rfl) ?_
                      refine VO.y rfl (.pT rfl rfl) ?_
                      refine VO.mv ?_
                      refine VO.known (t := 126) true rfl (decide_eq_true hc37) ?_
                      refine VO.gy rfl ⟨_, rfl, rfl⟩ (.mv rfl) ?_
                      refine VO.gy rfl ⟨_, rfl, rfl⟩ (.mv rfl) ?_
                      refine VO.gy rfl ⟨_, rfl, rfl⟩ (.lenS rfl tsl61) ?_
                      refine VO.gy rfl ⟨_, rfl, rfl⟩ (.eql rfl rfl) ?_
                      refine VO.y rfl (.pT rfl rfl) ?_
                      refine VO.as ?_
                      refine VO.keep [133, 131, 122, 119, 120, 115, 114, 111, 112, 0] [(133, mone g32 (.cells [Value.int .i64 (((sOf ((d0).take ((pickI d1 ((d0.length + 1 : Nat) : Int)).toNat))).2).1), Value.int .i64 (((sOf ((d0).take ((pickI d1 ((d0.length + 1 : Nat) : Int)).toNat))).2).2)].toArray 57 (0, 0))), (131, m31), (122, mone g21 (.cells [Value.int .i64 (((lDec ((lEncode ((shipHello x7.1 (1 + (pickI d2 3)) d0).1)).1)).1).1), Value.int .i64 (((lDec ((lEncode ((shipHello x7.1 (1 + (pickI d2 3)) d0).1)).1)).1).2.1), Value.int .u8 (((lDec ((lEncode ((shipHello x7.1 (1 + (pickI d2 3)) d0).1)).1)).1).2.2.1), Value.int .i64 (((lDec ((lEncode ((shipHello x7.1 (1 + (pickI d2 3)) d0).1)).1)).1).2.2.2.1), Value.slice q17_0_A4 ((((lDec ((lEncode ((shipHello x7.1 (1 + (pickI d2 3)) d0).1)).1)).1).2.2.2.2.1).length) (q17_0_c4), Value.int .i64 (((lDec ((lEncode ((shipHello x7.1 (1 + (pickI d2 3)) d0).1)).1)).1).2.2.2.2.2.1), Value.int .i64 (((lDec ((lEncode ((shipHello x7.1 (1 + (pickI d2 3)) d0).1)).1)).1).2.2.2.2.2.2.1), Value.slice q17_0_A7 ((((lDec ((lEncode ((shipHello x7.1 (1 + (pickI d2 3)) d0).1)).1)).1).2.2.2.2.2.2.2).length) (q17_0_c7)].toArray 72 (0, 0))), (119, q17_0_n4), (120, q17_0_n7), (115, m15), (114, mone g13 (.cells [Value.int .i64 (((shipHello x7.1 (1 + (pickI d2 3)) d0).1).1), Value.int .i64 (((shipHello x7.1 (1 + (pickI d2 3)) d0).1).2.1), Value.int .u8 (((shipHello x7.1 (1 + (pickI d2 3)) d0).1).2.2.1), Value.int .i64 (((shipHello x7.1 (1 + (pickI d2 3)) d0).1).2.2.2.1), Value.slice q10_0_A4 ((((shipHello x7.1 (1 + (pickI d2 3)) d0).1).2.2.2.2.1).length) (q10_0_c4), Value.int .i64 (((shipHello x7.1 (1 + (pickI d2 3)) d0).1).2.2.2.2.2.1), Value.int .i64 (((shipHello x7.1 (1 + (pickI d2 3)) d0).1).2.2.2.2.2.2.1), Value.slice q10_0_A7 ((((shipHello x7.1 (1 + (pickI d2 3)) d0).1).2.2.2.2.2.2.2).length) (q10_0_c7)].toArray 72 (0, 0))), (111, q10_0_n4), (112, q10_0_n7), (0, wm W)] (by kernel_rfl) ?_
                      refine VO.k20 0 1 2 6 7 8 9 10 11 12 13 14 15 16 17 18 20 29 32 75 ?_
                      refine VC.ret ?_
                      refine ⟨_, _, res_run (rs := [.tmp 6]) rfl (.tmp rfl .nil), fun W_ hI => out_of (l := []) hI [] rfl rfl (mle_refl _) (fun hS_ => ?_)⟩
                      dsimp only [packV]
                      all_goals (first | rfl | ((first | have hE := lastE_of ‹d0[_]? = some _› (by omega) | have hE := lastE_nil (l := d0) (by omega)); exact congrArg Value.bool (decide_eq_true (by have h_ := (hello_lCheck (l := d0) (r := 1 + pickI d2 3) (by omega) (by omega)).1; rw [hE] at h_; rw [h_]))))
                    · -- FFTFFFFTTF
                      exact absurd rfl hc38
                  · -- FFTFFFFTF
                    exact absurd rfl hc37
                · -- FFTFFFFF
                  exact absurd (by rw [sOf_take_good (show (cFollows 0 0 d0).1 = 0 by omega)]; exact ⟨rfl, rfl⟩) hc36
      · -- FFF
        refine VC.skip ?_
        refine outN ?_
        refine VC.rs ?_
        refine VO.mv ?_
        refine VO.mv ?_
        refine VO.callN 139 rfl fnOk43 rfl (fun W hW => pick_ok W d2 bdk 3 bdk bd) (fun v39 m39 hv39 => ?_)
        subst hv39
        have hfa40 := pickI_bounds d2 3 (by omega)
        refine VO.y rfl (.add rfl rfl rfl ⟨bd, bd⟩) ?_
        refine VO.y rfl (.cvI rfl ⟨_, Try.underlying3⟩ Try.underlying69 (IntWalk.u8_in _ bd)) ?_
        refine VO.mv ?_
        refine VO.callN 141 rfl fnOk67 rfl (fun W hW => hello_ok W 1 bdk (1 + (pickI d2 3)) bdk (Rd.mono h0 (hW.at (i := 0) rfl)) bd) (fun v41 m41 hv41 => ?_)
        obtain ⟨s41_0, rfl, f41_0⟩ := hv41
        obtain ⟨q41_0_A4, q41_0_c4, q41_0_A7, q41_0_c7, q41_0_n4, q41_0_n7, rfl, q41_0_S, q41_0_0, q41_0_1, q41_0_2, q41_0_3, q41_0_4, q41_0_5, q41_0_6, q41_0_7⟩ := openO_Message (x0 := ((shipHello 1 (1 + (pickI d2 3)) d0).1).1) (x1 := ((shipHello 1 (1 + (pickI d2 3)) d0).1).2.1) (x2 := ((shipHello 1 (1 + (pickI d2 3)) d0).1).2.2.1) (x3 := ((shipHello 1 (1 + (pickI d2 3)) d0).1).2.2.2.1) (x4 := ((shipHello 1 (1 + (pickI d2 3)) d0).1).2.2.2.2.1) (x5 := ((shipHello 1 (1 + (pickI d2 3)) d0).1).2.2.2.2.2.1) (x6 := ((shipHello 1 (1 + (pickI d2 3)) d0).1).2.2.2.2.2.2.1) (x7 := ((shipHello 1 (1 + (pickI d2 3)) d0).1).2.2.2.2.2.2.2) f41_0
        simp only [inK] at q41_0_0
        simp only [inK] at q41_0_1
        simp only [inK] at q41_0_2
        simp only [inK] at q41_0_3
        have q41_0_r4 := Rd.room (q41_0_4.rd (mle_refl _))
        simp only [inK] at q41_0_5
        simp only [inK] at q41_0_6
        have q41_0_r7 := Rd.room (q41_0_7.rd (mle_refl _))
        refine VO.inv _ (fun _ h => h.parts (i := 141) rfl q41_0_S [142, 143]) ?_
        refine VO.mv ?_
        refine VO.y rfl (.ext rfl rfl) ?_
        refine VO.y rfl (.ext rfl rfl) ?_
        refine VO.alloc 145 rfl tz72 (fun g44 => ?_)
        refine VO.store (k := 8) (c' := [Value.int .i64 (((shipHello 1 (1 + (pickI d2 3)) d0).1).1), Value.int .i64 (((shipHello 1 (1 + (pickI d2 3)) d0).1).2.1), Value.int .u8 (((shipHello 1 (1 + (pickI d2 3)) d0).1).2.2.1), Value.int .i64 (((shipHello 1 (1 + (pickI d2 3)) d0).1).2.2.2.1), Value.slice q41_0_A4 ((((shipHello 1 (1 + (pickI d2 3)) d0).1).2.2.2.2.1).length) (q41_0_c4), Value.int .i64 (((shipHello 1 (1 + (pickI d2 3)) d0).1).2.2.2.2.2.1), Value.int .i64 (((shipHello 1 (1 + (pickI d2 3)) d0).1).2.2.2.2.2.2.1), Value.slice q41_0_A7 ((((shipHello 1 (1 + (pickI d2 3)) d0).1).2.2.2.2.2.2.2).length) (q41_0_c7)]) 145 rfl rfl (.inl tk72) rfl rfl rfl rfl rfl ?_
        refine VO.as ?_
        refine VO.keep [145, 142, 143, 0] [(145, mone g44 (.cells [Value.int .i64 (((shipHello 1 (1 + (pickI d2 3)) d0).1).1), Value.int .i64 (((shipHello 1 (1 + (pickI d2 3)) d0).1).2.1), Value.int .u8 (((shipHello 1 (1 + (pickI d2 3)) d0).1).2.2.1), Value.int .i64 (((shipHello 1 (1 + (pickI d2 3)) d0).1).2.2.2.1), Value.slice q41_0_A4 ((((shipHello 1 (1 + (pickI d2 3)) d0).1).2.2.2.2.1).length) (q41_0_c4), Value.int .i64 (((shipHello 1 (1 + (pickI d2 3)) d0).1).2.2.2.2.2.1), Value.int .i64 (((shipHello 1 (1 + (pickI d2 3)) d0).1).2.2.2.2.2.2.1), Value.slice q41_0_A7 ((((shipHello 1 (1 + (pickI d2 3)) d0).1).2.2.2.2.2.2.2).length) (q41_0_c7)].toArray 72 (0, 0))), (142, q41_0_n4), (143, q41_0_n7), (0, wm W)] (by kernel_rfl) ?_
        refine VO.k10 0 1 2 6 7 8 9 20 29 32 ?_
        refine VC.rs ?_
        refine VO.y rfl (.ldA 145 rfl tk72 rfl (cellsAt_one rfl rfl)) ?_
        refine VO.callN 146 rfl fnOk88 rfl (fun W hW => lEncode_ok W (show Rd TMessage _ _ ((shipHello 1 (1 + (pickI d2 3)) d0).1) from (mk_Message (m := wm W) (((shipHello 1 (1 + (pickI d2 3)) d0).1).1) (((shipHello 1 (1 + (pickI d2 3)) d0).1).2.1) (((shipHello 1 (1 + (pickI d2 3)) d0).1).2.2.1) (((shipHello 1 (1 + (pickI d2 3)) d0).1).2.2.2.1) (((shipHello 1 (1 + (pickI d2 3)) d0).1).2.2.2.2.1) (((shipHello 1 (1 + (pickI d2 3)) d0).1).2.2.2.2.2.1) (((shipHello 1 (1 + (pickI d2 3)) d0).1).2.2.2.2.2.2.1) (((shipHello 1 (1 + (pickI d2 3)) d0).1).2.2.2.2.2.2.2) bdk bdk bdk bdk (OwnL.rd (Ow.ownl q41_0_4 rfl mnil) (hW.at (i := 142) rfl) (mle_nil _)) bdk bdk (Ow.rd q41_0_7 (hW.at (i := 143) rfl))))) (fun v46 m46 hv46 => ?_)
        obtain ⟨s46_0, rfl, f46_0⟩ := hv46
        have hfa47 := lEncode_len ((shipHello 1 (1 + (pickI d2 3)) d0).1)
        obtain ⟨A46_0, c46_0, eq46_0, l46_0, k46_0⟩ := f46_0.slice
        subst eq46_0
        simp only [maxLen] at k46_0
        refine VO.mv ?_
        refine VO.y rfl (.ext rfl rfl) ?_
        refine VO.y rfl (.ext rfl rfl) ?_
        refine VO.as ?_
        refine VO.as ?_
        refine VO.k12 0 1 2 6 7 8 9 10 11 20 29 32 ?_
        refine VC.rs ?_
        refine VO.mv ?_
        refine VO.callN 148 rfl fnOk89 rfl (fun W hW => lDec_ok W (OwnL.rd (Ow.ownl f46_0 rfl mnil) (hW.at (i := 146) rfl) (mle_nil _))) (fun v48 m48 hv48 => ?_)
        obtain ⟨s48_0, rfl, f48_0⟩ := hv48
        have hfa49 := lDec_fits ((lEncode ((shipHello 1 (1 + (pickI d2 3)) d0).1)).1)
        obtain ⟨q48_0_A4, q48_0_c4, q48_0_A7, q48_0_c7, q48_0_n4, q48_0_n7, rfl, q48_0_S, q48_0_0, q48_0_1, q48_0_2, q48_0_3, q48_0_4, q48_0_5, q48_0_6, q48_0_7⟩ := openO_Message (x0 := ((lDec ((lEncode ((shipHello 1 (1 + (pickI d2 3)) d0).1)).1)).1).1) (x1 := ((lDec ((lEncode ((shipHello 1 (1 + (pickI d2 3)) d0).1)).1)).1).2.1) (x2 := ((lDec ((lEncode ((shipHello 1 (1 + (pickI d2 3)) d0).1)).1)).1).2.2.1) (x3 := ((lDec ((lEncode ((shipHello 1 (1 + (pickI d2 3)) d0).1)).1)).1).2.2.2.1) (x4 := ((lDec ((lEncode ((shipHello 1 (1 + (pickI d2 3)) d0).1)).1)).1).2.2.2.2.1) (x5 := ((lDec ((lEncode ((shipHello 1 (1 + (pickI d2 3)) d0).1)).1)).1).2.2.2.2.2.1) (x6 := ((lDec ((lEncode ((shipHello 1 (1 + (pickI d2 3)) d0).1)).1)).1).2.2.2.2.2.2.1) (x7 := ((lDec ((lEncode ((shipHello 1 (1 + (pickI d2 3)) d0).1)).1)).1).2.2.2.2.2.2.2) f48_0
        simp only [inK] at q48_0_0
        simp only [inK] at q48_0_1
        simp only [inK] at q48_0_2
        simp only [inK] at q48_0_3
        have q48_0_r4 := Rd.room (q48_0_4.rd (mle_refl _))
        simp only [inK] at q48_0_5
        simp only [inK] at q48_0_6
        have q48_0_r7 := Rd.room (q48_0_7.rd (mle_refl _))
        refine VO.inv _ (fun _ h => h.parts (i := 148) rfl q48_0_S [150, 151]) ?_
        refine VO.mv ?_
        refine VO.y rfl (.ext rfl rfl) ?_
        refine VO.y rfl (.ext rfl rfl) ?_
        refine VO.alloc 153 rfl tz72 (fun g52 => ?_)
        refine VO.store (k := 8) (c' := [Value.int .i64 (((lDec ((lEncode ((shipHello 1 (1 + (pickI d2 3)) d0).1)).1)).1).1), Value.int .i64 (((lDec ((lEncode ((shipHello 1 (1 + (pickI d2 3)) d0).1)).1)).1).2.1), Value.int .u8 (((lDec ((lEncode ((shipHello 1 (1 + (pickI d2 3)) d0).1)).1)).1).2.2.1), Value.int .i64 (((lDec ((lEncode ((shipHello 1 (1 + (pickI d2 3)) d0).1)).1)).1).2.2.2.1), Value.slice q48_0_A4 ((((lDec ((lEncode ((shipHello 1 (1 + (pickI d2 3)) d0).1)).1)).1).2.2.2.2.1).length) (q48_0_c4), Value.int .i64 (((lDec ((lEncode ((shipHello 1 (1 + (pickI d2 3)) d0).1)).1)).1).2.2.2.2.2.1), Value.int .i64 (((lDec ((lEncode ((shipHello 1 (1 + (pickI d2 3)) d0).1)).1)).1).2.2.2.2.2.2.1), Value.slice q48_0_A7 ((((lDec ((lEncode ((shipHello 1 (1 + (pickI d2 3)) d0).1)).1)).1).2.2.2.2.2.2.2).length) (q48_0_c7)]) 153 rfl rfl (.inl tk72) rfl rfl rfl rfl rfl ?_
        refine VO.as ?_
        refine VO.k14 0 1 2 6 7 8 9 10 11 12 13 20 29 32 ?_
        refine VC.seq ?_
        refine VC.rs ?_
        refine VO.mv ?_
        refine VO.y rfl (.neq rfl rfl) ?_
        refine VO.mv ?_
        refine VO.dec (t := 62) rfl (fun hc54 => ?_) (fun hc54 => ?_)
        · -- FFFT
          exfalso; have hE : lastE d0 = 1 := (by first | exact lastE_of ‹d0[_]? = some _› (by omega) | exact lastE_nil (l := d0) (by omega)); have hv : (cFollows 0 0 d0).1 = 0 := (by omega); have hb := hello_back (r := 1 + pickI d2 3) hv (by omega); rw [hE] at hb; exact hc54 hb.1
        · -- FFFF
          refine VO.gy rfl ⟨_, rfl, rfl⟩ (.mv rfl) ?_
          refine VO.gy rfl ⟨_, rfl, rfl⟩ (.neq rfl rfl) ?_
          refine VO.y rfl (.pF rfl rfl) ?_
          refine VO.mv ?_
          refine VO.dec (t := 66) rfl (fun hc55 => ?_) (fun hc55 => ?_)
          · -- FFFFT
            exfalso; have hE : lastE d0 = 1 := (by first | exact lastE_of ‹d0[_]? = some _› (by omega) | exact lastE_nil (l := d0) (by omega)); have hv : (cFollows 0 0 d0).1 = 0 := (by omega); have hb := hello_back (r := 1 + pickI d2 3) hv (by omega); rw [hE] at hb; exact hc55 hb.2.1
          · -- FFFFF
            refine VO.gy rfl ⟨_, rfl, rfl⟩ (.mv rfl) ?_
            refine VO.gy rfl ⟨_, rfl, rfl⟩ (.neq rfl rfl) ?_
            refine VO.y rfl (.pF rfl rfl) ?_
            refine VO.mv ?_
            refine VO.dec (t := 70) rfl (fun hc56 => ?_) (fun hc56 => ?_)
            · -- FFFFFT
              exfalso; have hE : lastE d0 = 1 := (by first | exact lastE_of ‹d0[_]? = some _› (by omega) | exact lastE_nil (l := d0) (by omega)); have hv : (cFollows 0 0 d0).1 = 0 := (by omega); have hb := hello_back (r := 1 + pickI d2 3) hv (by omega); rw [hE] at hb; exact hc56 (by rw [hb.2.2])
            · -- FFFFFF
              refine VO.gy rfl ⟨_, rfl, rfl⟩ (.ldA 153 rfl tk72 rfl (cellsAt_one rfl rfl)) ?_
              refine VO.gy rfl ⟨_, rfl, rfl⟩ (.ldA 145 rfl tk72 rfl (cellsAt_one rfl rfl)) ?_
              refine VO.gcallN 157 rfl ⟨_, rfl, rfl⟩ fnOk90 rfl (fun W hW => lSame_ok W (show Rd TMessage _ _ ((lDec ((lEncode ((shipHello 1 (1 + (pickI d2 3)) d0).1)).1)).1) from (mk_Message (m := wm W) (((lDec ((lEncode ((shipHello 1 (1 + (pickI d2 3)) d0).1)).1)).1).1) (((lDec ((lEncode ((shipHello 1 (1 + (pickI d2 3)) d0).1)).1)).1).2.1) (((lDec ((lEncode ((shipHello 1 (1 + (pickI d2 3)) d0).1)).1)).1).2.2.1) (((lDec ((lEncode ((shipHello 1 (1 + (pickI d2 3)) d0).1)).1)).1).2.2.2.1) (((lDec ((lEncode ((shipHello 1 (1 + (pickI d2 3)) d0).1)).1)).1).2.2.2.2.1) (((lDec ((lEncode ((shipHello 1 (1 + (pickI d2 3)) d0).1)).1)).1).2.2.2.2.2.1) (((lDec ((lEncode ((shipHello 1 (1 + (pickI d2 3)) d0).1)).1)).1).2.2.2.2.2.2.1) (((lDec ((lEncode ((shipHello 1 (1 + (pickI d2 3)) d0).1)).1)).1).2.2.2.2.2.2.2) bdk bdk bdk bdk (OwnL.rd (Ow.ownl q48_0_4 rfl mnil) (hW.at (i := 150) rfl) (mle_nil _)) bdk bdk (Ow.rd q48_0_7 (hW.at (i := 151) rfl)))) (show Rd TMessage _ _ ((shipHello 1 (1 + (pickI d2 3)) d0).1) from (mk_Message (m := wm W) (((shipHello 1 (1 + (pickI d2 3)) d0).1).1) (((shipHello 1 (1 + (pickI d2 3)) d0).1).2.1) (((shipHello 1 (1 + (pickI d2 3)) d0).1).2.2.1) (((shipHello 1 (1 + (pickI d2 3)) d0).1).2.2.2.1) (((shipHello 1 (1 + (pickI d2 3)) d0).1).2.2.2.2.1) (((shipHello 1 (1 + (pickI d2 3)) d0).1).2.2.2.2.2.1) (((shipHello 1 (1 + (pickI d2 3)) d0).1).2.2.2.2.2.2.1) (((shipHello 1 (1 + (pickI d2 3)) d0).1).2.2.2.2.2.2.2) bdk bdk bdk bdk (OwnL.rd (Ow.ownl q41_0_4 rfl mnil) (hW.at (i := 142) rfl) (mle_nil _)) bdk bdk (Ow.rd q41_0_7 (hW.at (i := 143) rfl))))) (fun v57 m57 hv57 => ?_)
              subst hv57
              refine VO.gy rfl ⟨_, rfl, rfl⟩ (.notD rfl) ?_
              refine VO.y rfl (.pF rfl rfl) ?_
              refine VO.keep [153, 150, 151, 146, 145, 142, 143, 0] [(153, mone g52 (.cells [Value.int .i64 (((lDec ((lEncode ((shipHello 1 (1 + (pickI d2 3)) d0).1)).1)).1).1), Value.int .i64 (((lDec ((lEncode ((shipHello 1 (1 + (pickI d2 3)) d0).1)).1)).1).2.1), Value.int .u8 (((lDec ((lEncode ((shipHello 1 (1 + (pickI d2 3)) d0).1)).1)).1).2.2.1), Value.int .i64 (((lDec ((lEncode ((shipHello 1 (1 + (pickI d2 3)) d0).1)).1)).1).2.2.2.1), Value.slice q48_0_A4 ((((lDec ((lEncode ((shipHello 1 (1 + (pickI d2 3)) d0).1)).1)).1).2.2.2.2.1).length) (q48_0_c4), Value.int .i64 (((lDec ((lEncode ((shipHello 1 (1 + (pickI d2 3)) d0).1)).1)).1).2.2.2.2.2.1), Value.int .i64 (((lDec ((lEncode ((shipHello 1 (1 + (pickI d2 3)) d0).1)).1)).1).2.2.2.2.2.2.1), Value.slice q48_0_A7 ((((lDec ((lEncode ((shipHello 1 (1 + (pickI d2 3)) d0).1)).1)).1).2.2.2.2.2.2.2).length) (q48_0_c7)].toArray 72 (0, 0))), (150, q48_0_n4), (151, q48_0_n7), (146, m46), (145, mone g44 (.cells [Value.int .i64 (((shipHello 1 (1 + (pickI d2 3)) d0).1).1), Value.int .i64 (((shipHello 1 (1 + (pickI d2 3)) d0).1).2.1), Value.int .u8 (((shipHello 1 (1 + (pickI d2 3)) d0).1).2.2.1), Value.int .i64 (((shipHello 1 (1 + (pickI d2 3)) d0).1).2.2.2.1), Value.slice q41_0_A4 ((((shipHello 1 (1 + (pickI d2 3)) d0).1).2.2.2.2.1).length) (q41_0_c4), Value.int .i64 (((shipHello 1 (1 + (pickI d2 3)) d0).1).2.2.2.2.2.1), Value.int .i64 (((shipHello 1 (1 + (pickI d2 3)) d0).1).2.2.2.2.2.2.1), Value.slice q41_0_A7 ((((shipHello 1 (1 + (pickI d2 3)) d0).1).2.2.2.2.2.2.2).length) (q41_0_c7)].toArray 72 (0, 0))), (142, q41_0_n4), (143, q41_0_n7), (0, wm W)] (by kernel_rfl) ?_
              refine VO.k15 0 1 2 6 7 8 9 10 11 12 13 20 29 32 75 ?_
              refine VC.cond rfl (fun hc58 => ?_) (fun hc58 => ?_)
              · -- FFFFFFT
                exfalso; have hE : lastE d0 = 1 := (by first | exact lastE_of ‹d0[_]? = some _› (by omega) | exact lastE_nil (l := d0) (by omega)); have hv : (cFollows 0 0 d0).1 = 0 := (by omega); have hb := hello_back (r := 1 + pickI d2 3) hv (by omega); rw [hE] at hb; exact hc58 (by rw [hb.2.2])
              · -- FFFFFFF
                refine VC.skip ?_
                refine outN ?_
                refine VC.rs ?_
                refine VO.mv ?_
                refine VO.mv ?_
                refine VO.y rfl (.lenS rfl tsl61) ?_
                refine VO.y rfl (.add (c := ((d0.length + 1 : Nat) : Int)) rfl rfl (by omega) ⟨bd, bd⟩) ?_
                refine VO.callN 159 rfl fnOk43 rfl (fun W hW => pick_ok W d1 bdk ((d0.length + 1 : Nat) : Int) bdk bd) (fun v59 m59 hv59 => ?_)
                subst hv59
                have hfa60 := pickI_bounds d1 ((d0.length + 1 : Nat) : Int) (by omega)
                refine VO.as ?_
                refine VO.k16 0 1 2 6 7 8 9 10 11 12 13 14 20 29 32 75 ?_
                refine VC.rs ?_
                refine VO.mv ?_
                refine VO.mv ?_
                have hs61 := h0.pre (j := ((pickI d1 ((d0.length + 1 : Nat) : Int)).toNat)) bd
                refine VO.y rfl (.slHI ((pickI d1 ((d0.length + 1 : Nat) : Int)).toNat) rfl rfl tsl61 bd bd) ?_
                refine VO.callN 162 rfl fnOk91 rfl (fun W hW => of_ok W (Rd.mono hs61 (hW.at (i := 0) rfl)) bd) (fun v62 m62 hv62 => ?_)
                obtain ⟨s62_0, s62_1, rfl, f62_0, f62_1⟩ := hv62
                obtain ⟨A62_0, c62_0, eq62_0, l62_0, k62_0⟩ := f62_0.slice
                subst eq62_0
                simp only [maxLen] at k62_0
                obtain ⟨rfl, q62_1_0, q62_1_1⟩ := open_Fault (x0 := ((sOf ((d0).take ((pickI d1 ((d0.length + 1 : Nat) : Int)).toNat))).2).1) (x1 := ((sOf ((d0).take ((pickI d1 ((d0.length + 1 : Nat) : Int)).toNat))).2).2) (f62_1.rd (mle_refl _))
                simp only [inK] at q62_1_0
                simp only [inK] at q62_1_1
                refine VO.mv ?_
                refine VO.y rfl (.ext rfl rfl) ?_
                refine VO.y rfl (.ext rfl rfl) ?_
                refine VO.alloc 164 rfl tz57 (fun g63 => ?_)
                refine VO.as ?_
                refine VO.store (k := 2) (c' := [Value.int .i64 (((sOf ((d0).take ((pickI d1 ((d0.length + 1 : Nat) : Int)).toNat))).2).1), Value.int .i64 (((sOf ((d0).take ((pickI d1 ((d0.length + 1 : Nat) : Int)).toNat))).2).2)]) 164 rfl rfl (.inl tk57) rfl rfl rfl rfl rfl ?_
                refine VO.k18 0 1 2 6 7 8 9 10 11 12 13 14 15 16 20 29 32 75 ?_
                refine VC.rs ?_
                refine VO.y rfl (.fa rfl tst72 rfl) ?_
                refine VO.y rfl (.ld1 153 rfl tk70 rfl (cellsAt_one rfl rfl)) ?_
                refine VO.y rfl (.fa rfl tst72 rfl) ?_
                refine VO.y rfl (.ld1 153 rfl tk3 rfl (cellsAt_one rfl rfl)) ?_
                refine VO.mv ?_
                refine VO.mv ?_
                refine VO.callN 165 rfl fnOk92 rfl (fun W hW => sFork_ok W (OwnL.rd (Ow.ownl q48_0_4 rfl mnil) (hW.at (i := 150) rfl) (mle_nil _)) (((lDec ((lEncode ((shipHello 1 (1 + (pickI d2 3)) d0).1)).1)).1).2.2.2.1) bdk (OwnL.rd (Ow.ownl f62_0 rfl mnil) (hW.at (i := 162) rfl) (mle_nil _)) (pickI d1 ((d0.length + 1 : Nat) : Int)) bdk (by (first | have hE := lastE_of ‹d0[_]? = some _› (by omega) | have hE := lastE_nil (l := d0) (by omega)); first | (have h_ := hello_self (log := d0) (r := 1 + pickI d2 3) (by omega) (by omega); rw [hE] at h_; exact h_) | (have h_ := hello_part (log := d0) (r := 1 + pickI d2 3) (by omega) (by omega) (n := (pickI d1 ((d0.length + 1 : Nat) : Int)).toNat) (by omega); rw [hE, Int.toNat_of_nonneg (by omega)] at h_; exact h_))) (fun v65 m65 hv65 => ?_)
                subst hv65
                refine VO.mv ?_
                refine VO.y rfl (.ext rfl rfl) ?_
                refine VO.y rfl (.ext rfl rfl) ?_
                refine VO.as ?_
                refine VO.as ?_
                refine VO.keep [164, 162, 153, 150, 151, 146, 145, 142, 143, 0] [(164, mone g63 (.cells [Value.int .i64 (((sOf ((d0).take ((pickI d1 ((d0.length + 1 : Nat) : Int)).toNat))).2).1), Value.int .i64 (((sOf ((d0).take ((pickI d1 ((d0.length + 1 : Nat) : Int)).toNat))).2).2)].toArray 57 (0, 0))), (162, m62), (153, mone g52 (.cells [Value.int .i64 (((lDec ((lEncode ((shipHello 1 (1 + (pickI d2 3)) d0).1)).1)).1).1), Value.int .i64 (((lDec ((lEncode ((shipHello 1 (1 + (pickI d2 3)) d0).1)).1)).1).2.1), Value.int .u8 (((lDec ((lEncode ((shipHello 1 (1 + (pickI d2 3)) d0).1)).1)).1).2.2.1), Value.int .i64 (((lDec ((lEncode ((shipHello 1 (1 + (pickI d2 3)) d0).1)).1)).1).2.2.2.1), Value.slice q48_0_A4 ((((lDec ((lEncode ((shipHello 1 (1 + (pickI d2 3)) d0).1)).1)).1).2.2.2.2.1).length) (q48_0_c4), Value.int .i64 (((lDec ((lEncode ((shipHello 1 (1 + (pickI d2 3)) d0).1)).1)).1).2.2.2.2.2.1), Value.int .i64 (((lDec ((lEncode ((shipHello 1 (1 + (pickI d2 3)) d0).1)).1)).1).2.2.2.2.2.2.1), Value.slice q48_0_A7 ((((lDec ((lEncode ((shipHello 1 (1 + (pickI d2 3)) d0).1)).1)).1).2.2.2.2.2.2.2).length) (q48_0_c7)].toArray 72 (0, 0))), (150, q48_0_n4), (151, q48_0_n7), (146, m46), (145, mone g44 (.cells [Value.int .i64 (((shipHello 1 (1 + (pickI d2 3)) d0).1).1), Value.int .i64 (((shipHello 1 (1 + (pickI d2 3)) d0).1).2.1), Value.int .u8 (((shipHello 1 (1 + (pickI d2 3)) d0).1).2.2.1), Value.int .i64 (((shipHello 1 (1 + (pickI d2 3)) d0).1).2.2.2.1), Value.slice q41_0_A4 ((((shipHello 1 (1 + (pickI d2 3)) d0).1).2.2.2.2.1).length) (q41_0_c4), Value.int .i64 (((shipHello 1 (1 + (pickI d2 3)) d0).1).2.2.2.2.2.1), Value.int .i64 (((shipHello 1 (1 + (pickI d2 3)) d0).1).2.2.2.2.2.2.1), Value.slice q41_0_A7 ((((shipHello 1 (1 + (pickI d2 3)) d0).1).2.2.2.2.2.2.2).length) (q41_0_c7)].toArray 72 (0, 0))), (142, q41_0_n4), (143, q41_0_n7), (0, wm W)] (by kernel_rfl) ?_
                refine VO.k19 0 1 2 6 7 8 9 10 11 12 13 14 15 16 17 20 29 32 75 ?_
                refine VC.rs ?_
                refine VO.y rfl (.fa rfl tst72 rfl) ?_
                refine VO.y rfl (.ld1 153 rfl tk70 rfl (cellsAt_one rfl rfl)) ?_
                refine VO.y rfl (.fa rfl tst72 rfl) ?_
                refine VO.y rfl (.ld1 153 rfl tk3 rfl (cellsAt_one rfl rfl)) ?_
                refine VO.y rfl (.fa rfl tst72 rfl) ?_
                refine VO.y rfl (.ld1 145 rfl tk70 rfl (cellsAt_one rfl rfl)) ?_
                refine VO.y rfl (.fa rfl tst72 rfl) ?_
                refine VO.y rfl (.ld1 145 rfl tk3 rfl (cellsAt_one rfl rfl)) ?_
                refine VO.callN 166 rfl fnOk92 rfl (fun W hW => sFork_ok W (OwnL.rd (Ow.ownl q48_0_4 rfl mnil) (hW.at (i := 150) rfl) (mle_nil _)) (((lDec ((lEncode ((shipHello 1 (1 + (pickI d2 3)) d0).1)).1)).1).2.2.2.1) bdk (OwnL.rd (Ow.ownl q41_0_4 rfl mnil) (hW.at (i := 142) rfl) (mle_nil _)) (((shipHello 1 (1 + (pickI d2 3)) d0).1).2.2.2.1) bdk (by (first | have hE := lastE_of ‹d0[_]? = some _› (by omega) | have hE := lastE_nil (l := d0) (by omega)); first | (have h_ := hello_self (log := d0) (r := 1 + pickI d2 3) (by omega) (by omega); rw [hE] at h_; exact h_) | (have h_ := hello_part (log := d0) (r := 1 + pickI d2 3) (by omega) (by omega) (n := (pickI d1 ((d0.length + 1 : Nat) : Int)).toNat) (by omega); rw [hE, Int.toNat_of_nonneg (by omega)] at h_; exact h_))) (fun v66 m66 hv66 => ?_)
                subst hv66
                refine VO.mv ?_
                refine VO.y rfl (.ext rfl rfl) ?_
                refine VO.y rfl (.ext rfl rfl) ?_
                refine VO.as ?_
                refine VO.as ?_
                refine VO.k20 0 1 2 6 7 8 9 10 11 12 13 14 15 16 17 18 20 29 32 75 ?_
                refine VC.rs ?_
                refine VO.y rfl (.ldA 164 rfl tk57 rfl (cellsAt_one rfl rfl)) ?_
                refine VO.y rfl (.bst (cs := [Value.int .i64 (0), Value.int .i64 (0)]) rfl tst57 tz57 rfl) ?_
                refine VO.y rfl (.steql (p := (((sOf ((d0).take ((pickI d1 ((d0.length + 1 : Nat) : Int)).toNat))).2).1) = 0 ∧ (((sOf ((d0).take ((pickI d1 ((d0.length + 1 : Nat) : Int)).toNat))).2).2) = 0) rfl rfl (teq57 (((sOf ((d0).take ((pickI d1 ((d0.length + 1 : Nat) : Int)).toNat))).2).1) (((sOf ((d0).take ((pickI d1 ((d0.length + 1 : Nat) : Int)).toNat))).2).2)) (teq57 0 0) (by simp [ceq, ba_toList])) ?_
                refine VO.mv ?_
                refine VO.dec (t := 113) rfl (fun hc67 => ?_) (fun hc67 => ?_)
                · -- FFFFFFFT
                  refine VO.gy rfl ⟨_, rfl, rfl⟩ (.mv rfl) ?_
                  refine VO.gy rfl ⟨_, rfl, rfl⟩ (.eql rfl rfl) ?_
                  refine VO.y rfl (.pT rfl rfl) ?_
                  refine VO.mv ?_
                  refine VO.dec (t := 117) rfl (fun hc68 => ?_) (fun hc68 => ?_)
                  · -- FFFFFFFTT
                    refine VO.gy rfl ⟨_, rfl, rfl⟩ (.mv rfl) ?_
                    refine VO.gy rfl ⟨_, rfl, rfl⟩ (.mv rfl) ?_
                    refine VO.gy rfl ⟨_, rfl, rfl⟩ (.eql rfl rfl) ?_
                    refine VO.y rfl (.pT rfl rfl) ?_
                    refine VO.mv ?_
                    refine VO.dec (t := 122) rfl (fun hc69 => ?_) (fun hc69 => ?_)
                    · -- FFFFFFFTTT
                      refine VO.gy rfl ⟨_, rfl, rfl⟩ (.mv rfl) ?_
                      refine VO.gy rfl ⟨_, rfl, rfl⟩ (.eql rfl rfl) ?_
                      refine VO.y rfl (.pT rfl rfl) ?_
                      refine VO.mv ?_
                      refine VO.known (t := 126) true rfl (decide_eq_true hc68) ?_
                      refine VO.gy rfl ⟨_, rfl, rfl⟩ (.mv rfl) ?_
                      refine VO.gy rfl ⟨_, rfl, rfl⟩ (.mv rfl) ?_
                      refine VO.gy rfl ⟨_, rfl, rfl⟩ (.lenS rfl tsl61) ?_
                      refine VO.gy rfl ⟨_, rfl, rfl⟩ (.eql rfl rfl) ?_
                      refine VO.y rfl (.pT rfl rfl) ?_
                      refine VO.as ?_
                      refine VO.k20 0 1 2 6 7 8 9 10 11 12 13 14 15 16 17 18 20 29 32 75 ?_
                      refine VC.ret ?_
                      refine ⟨_, _, res_run (rs := [.tmp 6]) rfl (.tmp rfl .nil), fun W_ hI => out_of (l := []) hI [] rfl rfl (mle_refl _) (fun hS_ => ?_)⟩
                      dsimp only [packV]
                      all_goals (first | rfl | ((first | have hE := lastE_of ‹d0[_]? = some _› (by omega) | have hE := lastE_nil (l := d0) (by omega)); exact congrArg Value.bool (decide_eq_true (by have h_ := (hello_lCheck (l := d0) (r := 1 + pickI d2 3) (by omega) (by omega)).1; rw [hE] at h_; rw [h_]))))
                    · -- FFFFFFFTTF
                      exact absurd rfl hc69
                  · -- FFFFFFFTF
                    exact absurd rfl hc68
                · -- FFFFFFFF
                  exact absurd (by rw [sOf_take_good (show (cFollows 0 0 d0).1 = 0 by omega)]; exact ⟨rfl, rfl⟩) hc67
end
section
set_option linter.unusedVariables false
set_option maxRecDepth 4000
open Go.ChangeShapes Go.WideShapes Go.ChangeAt Go.RowKit
theorem shipHello_ok0 : tyOk Try.prog 60 (.sl TCommit) (.inl 61) = true := by kernel_rfl
set_option maxRecDepth 100000 in
theorem shipHello_lifted (os : Os) (started : os.Started) (H : Type) (enc : TypeId × Value → H) :
    ReturnsInHanded {} Try.checked os 22 .any (Rows.shipHelloSpec.pre6 enc Try.prog Try.f22 Rows.shipHelloRow.domain false) (Rows.shipHelloSpec.post enc Try.prog Try.f22 false true false false) := by
  refine returnsInHanded_of_change (C := Try.checked) (by kernel_rfl) started (by kernel_rfl) Try.func22
    (ChangeSpec.witness6 (enc := enc) (C := Try.checked) false ⟨#[], #[.slice none 0 0, .int .i64 0, .int .i64 0], []⟩ 8 (by kernel_rfl) (by kernel_rfl) (by kernel_rfl) (by kernel_rfl)) ?_
  intro W base args ds gs before hval0 hW hcnd _
  have hval : ∀ (j : Nat) t v, Try.f22.params[j]? = some t → args[j]? = some v → Value.okWide Try.prog W .any base t v := hval0
  have hW' := hW
  obtain ⟨p, q, hA0, hV, rfl, hfz, hnd⟩ := hW
  have hA : DataW.TrodAll enc Try.prog W 0 (fun _ => true) true Try.f22.params.toList args.toList ds p := hA0
  rw [Try.params22] at hA hval
  clear hA0 hval0
  obtain ⟨args⟩ := args
  obtain ⟨v0, r0, d0, e0, p0, q0, ha0, rfl, rfl, h0, hA0⟩ := trodAll_cons hA
  simp only at ha0; subst ha0
  obtain ⟨v1, r1, d1, e1, p1, q1, ha1, rfl, rfl, h1, hA1⟩ := trodAll_cons hA0
  subst ha1
  obtain ⟨v2, r2, d2, e2, p2, q2, ha2, rfl, rfl, h2, hA2⟩ := trodAll_cons hA1
  subst ha2
  obtain ⟨rfl, rfl, rfl⟩ := trodAll_nil hA2
  obtain ⟨x0, hx0⟩ := arg_sl 60 shipHello_ok0 Try.underlying61 (hval 0 61 v0 rfl rfl) h0
  obtain ⟨x1, rfl, hx1⟩ := arg_int Try.underlying3 (hval 1 3 v1 rfl rfl) h1
  obtain ⟨x2, rfl, hx2⟩ := arg_int Try.underlying3 (hval 2 3 v2 rfl rfl) h2
  refine (calls_of (shipHelloLaw_ok W hx0 x1 hx1 x2 hx2)).mono fun e W' ⟨he, hg⟩ => ?_
  subst he
  exact ⟨_, rfl, law_post hW' hg laidOut_ok (by kernel_rfl) rfl Try.underlying4 rfl rfl rfl rfl⟩
theorem shipHello_joined : joinedFacts Try.prog 22 Try.f22 Rows.shipHelloSpec Rows.shipHelloRow = true := by
  unfold joinedFacts
  rw [laidOut_ok, mapsRowed_ok, stopsHeard_ok, mayEnter_ok, lifts_ok, make_ok]
  kernel_rfl
theorem shipHello_proved : Rows.ShipHelloSaid :=
  OpenClaim.holds_of_wide 22 Try.f22 rfl rfl rfl rfl rfl rfl rfl ⟨rfl, rfl, rfl, rfl, rfl⟩ rfl rfl rfl rfl rfl (by kernel_rfl) Try.func22 shipHello_joined
    (of_decide_eq_true (by kernel_rfl)) (by unfold Func.isWrapper; first | (rw [if_pos (by decide +kernel)]; kernel_rfl) | (rw [if_neg (by decide +kernel)]; exact ⟨rfl, rfl⟩))
    (fun os started H enc _ => shipHello_lifted os started H enc)
#print axioms shipHello_proved
end
end Go.Proofs.Ytfaknkkaegjdaaa
