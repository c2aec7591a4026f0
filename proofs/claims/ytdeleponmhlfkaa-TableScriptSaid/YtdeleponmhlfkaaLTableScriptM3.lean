/- Part 3 of the proof of LTableScript: what it needs of the library, the walks and the plain laws. Conditions: those named in each theorem. -/
import Derived.Test.YtdeleponmhlfkaaLTableScriptM2
set_option linter.unusedVariables false
set_option linter.unusedSimpArgs false
set_option maxRecDepth 4000
namespace Go.Proofs.Ytdeleponmhlfkaa
theorem fnOk11 : fnOk Try.prog 11 = true := by kernel_rfl
theorem fnOk14 : fnOk Try.prog 14 = true := by kernel_rfl
theorem fnOk15 : fnOk Try.prog 15 = true := by kernel_rfl
theorem fnOk16 : fnOk Try.prog 16 = true := by kernel_rfl
theorem fnOk17 : fnOk Try.prog 17 = true := by kernel_rfl
theorem fnOk9 : fnOk Try.prog 9 = true := by kernel_rfl
set_option maxHeartbeats 8000000 in
theorem tableScript_ok (W : World) {v0 : Value} {d0 : List (List DOp)} (h0 : Rd (.sl (.sl TOp)) (wm W) [v0] d0) {v1 : Value} {d1 : List (List UInt8)} (h1 : Rd (.sl .str) (wm W) [v1] d1) (d2 : Int) (h2 : inK .i64 d2) : CallR Try.prog 3 [v0, v1, .int .i64 d2] W (mnil) (fun v m' => v = .bool true) := by
  obtain ⟨A0, c0, rfl, l0, k0⟩ := h0.slice
  simp only [maxLen] at k0
  obtain ⟨A1, c1, rfl, l1, k1⟩ := h1.slice
  simp only [maxLen] at k1
  have h2' := h2; simp only [inK] at h2'
  refine CallR.ofA (n := 98) Try.func3 rfl rfl rfl ?_
  refine VC.rs ?_
  refine VO.as ?_
  refine VO.k4 0 1 2 6 ?_
  refine VC.seq ?_
  refine VC.rs ?_
  refine VO.callN 101 rfl fnOk8 rfl (fun W hW => lives7_ok W ) (fun v1 m1 hv1 => ?_)
  subst hv1
  refine VO.y rfl (.not rfl) ?_
  refine VO.k5 0 1 2 6 14 ?_
  refine VC.condF rfl ?_
  refine VC.skip ?_
  refine outN ?_
  refine VC.seq ?_
  refine VC.rs ?_
  refine VO.mv ?_
  refine VO.callN 102 rfl fnOk9 rfl (fun W hW => small7_ok W (Rd.mono h0 (hW.at (i := 0) rfl))) (fun v2 m2 hv2 => ?_)
  subst hv2
  refine VO.y rfl (.notD rfl) ?_
  refine VO.mv ?_
  refine VO.dec (t := 18) rfl (fun hc3 => ?_) (fun hc3 => ?_)
  · -- T
    refine VO.gN ?_
    refine VO.gN ?_
    refine VO.gN ?_
    refine VO.y rfl (.pT rfl rfl) ?_
    refine VO.kp [0] [(0, wm W)] ?_
    refine VO.k6 0 1 2 6 14 22 ?_
    refine VC.condT rfl ?_
    refine VC.rs ?_
    refine VO.as ?_
    refine VO.k6 0 1 2 6 14 22 ?_
    refine VC.ret ?_
    refine outR ?_
    refine ⟨_, _, res_run (rs := [.tmp 6]) rfl (.tmp rfl .nil), fun W_ hI => out_of (l := []) hI [] rfl rfl (mle_refl _) (fun hS_ => ?_)⟩
    dsimp only [packV]
    all_goals (first | rfl | (rfl))
  · -- F
    refine VO.gy rfl ⟨_, rfl, rfl⟩ (.mv rfl) ?_
    refine VO.gy rfl ⟨_, rfl, rfl⟩ (.lenS rfl tsl23) ?_
    refine VO.gy rfl ⟨_, rfl, rfl⟩ (.gtr rfl rfl) ?_
    refine VO.y rfl (.pF rfl rfl) ?_
    refine VO.kp [0] [(0, wm W)] ?_
    refine VO.k6 0 1 2 6 14 22 ?_
    refine VC.cond rfl (fun hc4 => ?_) (fun hc4 => ?_)
    · -- FT
      refine VC.rs ?_
      refine VO.as ?_
      refine VO.k6 0 1 2 6 14 22 ?_
      refine VC.ret ?_
      refine outR ?_
      refine ⟨_, _, res_run (rs := [.tmp 6]) rfl (.tmp rfl .nil), fun W_ hI => out_of (l := []) hI [] rfl rfl (mle_refl _) (fun hS_ => ?_)⟩
      dsimp only [packV]
      all_goals (first | rfl | (rfl))
    · -- FF
      refine VC.skip ?_
      refine outN ?_
      refine VC.rs ?_
      refine VO.callN 105 rfl fnOk10 rfl (fun W hW => tNew_ok W ) (fun v5 m5 hv5 => ?_)
      obtain ⟨s5_0, rfl, f5_0⟩ := hv5
      refine VO.callN 106 rfl fnOk11 rfl (fun W hW => t7New_ok W ) (fun v6 m6 hv6 => ?_)
      obtain ⟨s6_0, rfl, f6_0⟩ := hv6
      refine VO.as ?_
      refine VO.as ?_
      refine VO.k8 0 1 2 6 7 8 14 22 ?_
      refine VC.seq ?_
      refine VC.rs ?_
      refine VO.as ?_
      refine VO.k9 0 1 2 6 7 8 9 14 22 ?_
      refine VC.block ?_
      refine VC.loop (G := Nat × DtableTable × Mem × Dref07Table × Mem) (fun g => [(9, Value.int .i64 ((((g.1) : Nat) : Int))), (0, Value.slice A0 (d0.length) (c0)), (1, Value.slice A1 (d1.length) (c1)), (2, Value.int .i64 (d2)), (7, Value.pointer (some ⟨s5_0, 0, none⟩)), (8, Value.pointer (some ⟨s6_0, 0, none⟩)), (14, Value.bool false), (22, Value.bool (decide (40 < ((d1.length : Nat) : Int))))]) (fun g => [(106, (g.2.2.2.2)), (105, (g.2.2.1)), (0, wm W)]) (fun g => ((g.1) ≤ d0.length) ∧ (tabIs (g.2.1) (g.2.2.2.1).2) ∧ ((g.2.2.2.1).1 = true) ∧ ((g.2.1).length ≤ 40 * (g.1)) ∧ ((g.2.2.2.1).2.length ≤ 40 * (g.1)) ∧ (Ow (.ptr TtableTable) (g.2.2.1) [.pointer (some ⟨s5_0, 0, none⟩)] (s5_0, (g.2.1))) ∧ (Ow (.ptr Tref07Table) (g.2.2.2.2) [.pointer (some ⟨s6_0, 0, none⟩)] (s6_0, (g.2.2.2.1)))) (fun g => d0.length - (g.1)) (0, ([] : MapD), m5, (true, []), m6) (⟨by (dsimp only; omega), by exact tabIs_nil, by rfl, by (dsimp only; exact Nat.le_refl _), by (dsimp only; exact Nat.le_refl _), f5_0, f6_0⟩) ⟨⟨rfl, rfl, rfl, rfl, rfl, rfl, rfl, rfl, trivial⟩, fun _ h => h.sub [106, 105, 0]⟩ ?_
      rintro ⟨i, t, t_m, r, r_m⟩ ⟨hi, hT, hr, htl, hrl, h_t, h_r⟩
      replace hi : i ≤ d0.length := hi
      replace hT : tabIs t r.2 := hT
      replace hr : r.1 = true := hr
      replace htl : t.length ≤ 40 * i := htl
      replace hrl : r.2.length ≤ 40 * i := hrl
      replace h_t : Ow (.ptr TtableTable) t_m [.pointer (some ⟨s5_0, 0, none⟩)] (s5_0, t) := h_t
      replace h_r : Ow (.ptr Tref07Table) r_m [.pointer (some ⟨s6_0, 0, none⟩)] (s6_0, r) := h_r
      show VC _ _ _ _ _ [(9, Value.int .i64 (((i : Nat) : Int))), (0, Value.slice A0 (d0.length) (c0)), (1, Value.slice A1 (d1.length) (c1)), (2, Value.int .i64 (d2)), (7, Value.pointer (some ⟨s5_0, 0, none⟩)), (8, Value.pointer (some ⟨s6_0, 0, none⟩)), (14, Value.bool false), (22, Value.bool (decide (40 < ((d1.length : Nat) : Int))))] [(106, r_m), (105, t_m), (0, wm W)]
      have hsm : smallT d0 := by first | assumption | exact Decidable.not_not.1 (by assumption)
      have hd30 := hsm.2
      refine VC.seq ?_
      refine VC.rs ?_
      refine VO.mv ?_
      refine VO.mv ?_
      refine VO.y rfl (.lenS rfl tsl22) ?_
      refine VO.y rfl (.lss rfl rfl) ?_
      refine VO.kp [106, 105, 0] [(106, r_m), (105, t_m), (0, wm W)] ?_
      refine VO.k9 0 1 2 7 8 9 14 22 28 ?_
      refine VC.cond rfl (fun hc7 => ?_) (fun hc7 => ?_)
      · -- FFT
        refine VC.skip ?_
        refine outN ?_
        refine VC.seq ?_
        refine VC.block ?_
        refine VC.rs ?_
        refine VO.mv ?_
        refine VO.mv ?_
        obtain ⟨x8, hx8⟩ : ∃ z_, (d0)[i]? = some z_ := ⟨_, List.getElem?_eq_getElem bd⟩
        obtain ⟨gg8, oo8, ec8, ea8, hce8, hre8⟩ := h0.elem hx8
        cases ea8
        have hr8 := hre8
        obtain ⟨A8_, c8_, rfl, _⟩ := hre8
        have rr8 := Rd.room hr8
        refine VO.y rfl (.ixI i rfl rfl tsl22 rfl bd) ?_
        refine VO.y rfl (.ld1 0 rfl tk30 rfl hce8) ?_
        have hxl := hsm.1 x8 (List.mem_of_getElem? hx8)
        refine VO.callN 109 rfl fnOk12 rfl (fun W hW => LentOps_ok W (Rd.mono hr8 (hW.at (i := 0) rfl)) bd) (fun v9 m9 hv9 => ?_)
        obtain ⟨s9_0, rfl, f9_0⟩ := hv9
        obtain ⟨A9_0, c9_0, eq9_0, l9_0, k9_0⟩ := f9_0.slice
        subst eq9_0
        simp only [maxLen] at k9_0
        refine VO.as ?_
        refine VO.k10 0 1 2 7 8 9 10 14 22 28 ?_
        refine VC.seq ?_
        refine VC.seq ?_
        refine VC.regD _ 22 [(0, true), (1, true), (2, true), (3, true), (4, true), (5, true), (6, true), (7, true), (9, true), (10, true), (11, true), (12, true), (13, true), (8, false), (14, false), (15, true), (16, true), (17, true), (18, true), (19, true), (20, true), (21, true)] follows (by kernel_rfl) (fun _ h => h.sub [109, 0]) ?_
        obtain ⟨hsc1, hsc2, hsc3⟩ := sc_apply hT hr x8
        have hml := mApply_len t x8
        have htl2 := tApply_len r x8
        refine VD.y rfl rfl (.inl rfl) (.mv rfl) ?_
        refine VD.y rfl rfl (.inl rfl) (.mv rfl) ?_
        refine VD.y rfl rfl (.inl rfl) (.mv rfl) ?_
        refine VD.y rfl rfl (.inl rfl) (.mv rfl) ?_
        refine VD.y rfl rfl (.inl rfl) (.ixI i rfl rfl tsl22 rfl bd) ?_
        refine VD.y rfl rfl (.inl rfl) (.ld1 0 rfl tk30 rfl hce8) ?_
        refine VD.y rfl rfl (.inl rfl) (.lenS rfl tsl30) ?_
        have hs11 := (OwnL.rd (Ow.ownl f9_0 rfl mnil) (mle_refl _) (mle_nil _)).pre (j := x8.length) bd
        rw [List.take_left] at hs11
        refine VD.y rfl rfl (.inl rfl) (.slHI x8.length rfl rfl tsl30 rfl bd) ?_
        refine VD.y rfl rfl (.inl rfl) (.mv rfl) ?_
        refine VD.y rfl rfl (.inl rfl) (.mv rfl) ?_
        refine VD.y rfl rfl (.inl rfl) (.mv rfl) ?_
        refine VD.y rfl rfl (.inl rfl) (.ixI i rfl rfl tsl22 rfl bd) ?_
        refine VD.y rfl rfl (.inl rfl) (.ld1 0 rfl tk30 rfl hce8) ?_
        refine VD.call 105 rfl rfl (.inl rfl) fnOk13 rfl rfl (fun _ _ h => h.sub [109, 0]) (fun W hW => tApply_ok W (hW.at (i := 105) rfl) h_t (OwnL.rd (by have h_ := ((Ow.ownl f9_0 rfl mnil).pre (j := x8.length) bd); rw [List.take_left] at h_; exact h_) (hW.out (i := 105) (j := 109) rfl rfl) (mle_nil _))) (fun v13 m13 hv13 => ?_)
        obtain ⟨rfl, w13_0⟩ := hv13
        refine VD.call 106 rfl rfl (.inl rfl) fnOk14 rfl rfl (fun _ _ h => h.sub [109, 0]) (fun W hW => t7Apply_ok W (hW.at (i := 106) rfl) h_r (Rd.mono hr8 (hW.out (i := 106) (j := 0) rfl rfl)) (by assumption) bd) (fun v14 m14 hv14 => ?_)
        obtain ⟨rfl, w14_0⟩ := hv14
        have hfa15 := tApply_len r x8
        refine VD.y rfl rfl (.inl rfl) (.neq rfl rfl) ?_
        refine VD.y rfl rfl (.inl rfl) (.mv rfl) ?_
        refine VD.dec (s := 52) rfl (fun hc16 => ?_) (fun hc16 => ?_)
        · -- FFTT
          exact absurd hsc2 hc16
        · -- FFTF
          refine VD.y rfl rfl (.inr ⟨_, _, rfl, _, rfl, rfl⟩) (.mv rfl) ?_
          refine VD.y rfl rfl (.inr ⟨_, _, rfl, _, rfl, rfl⟩) (.mv rfl) ?_
          refine VD.y rfl rfl (.inr ⟨_, _, rfl, _, rfl, rfl⟩) (.mv rfl) ?_
          refine VD.y rfl rfl (.inr ⟨_, _, rfl, _, rfl, rfl⟩) (.ixI i rfl rfl tsl22 rfl bd) ?_
          refine VD.y rfl rfl (.inr ⟨_, _, rfl, _, rfl, rfl⟩) (.ld1 0 rfl tk30 rfl hce8) ?_
          refine VD.nil rfl ?_ rfl
          refine VO.gcallN 118 rfl ⟨_, rfl, rfl⟩ fnOk15 rfl (fun W hW => KeptOps_ok W (OwnL.rd (Ow.ownl f9_0 rfl mnil) (hW.at (i := 109) rfl) (mle_nil _)) (Rd.mono hr8 (hW.at (i := 0) rfl)) bd) (fun v18 m18 hv18 => ?_)
          subst hv18
          refine VO.gy rfl ⟨_, rfl, rfl⟩ (.notD rfl) ?_
          refine VO.y rfl (.pF rfl rfl) ?_
          refine VO.k11 0 1 2 7 8 9 10 14 22 28 60 ?_
          refine outN ?_
          refine VC.cond rfl (fun hc19 => ?_) (fun hc19 => ?_)
          · -- FFTFT
            exact absurd rfl hc19
          · -- FFTFF
            refine VC.skip ?_
            refine outN ?_
            refine VC.seq ?_
            refine VC.rs ?_
            refine VO.as ?_
            refine VO.kp [106, 105, 109, 0] [(106, m14), (105, m13), (109, m9), (0, wm W)] ?_
            refine VO.k12 0 1 2 7 8 9 10 11 14 22 28 60 ?_
            refine VC.block ?_
            refine VC.loop (G := Nat × (List DOp) × Mem) (fun g => [(10, Value.slice A9_0 ((x8 ++ spareO).length) (c9_0)), (11, Value.int .i64 ((((g.1) : Nat) : Int))), (0, Value.slice (some ⟨gg8, oo8, none⟩) (d0.length) (c0)), (1, Value.slice A1 (d1.length) (c1)), (2, Value.int .i64 (d2)), (7, Value.pointer (some ⟨s5_0, 0, none⟩)), (8, Value.pointer (some ⟨s6_0, 0, none⟩)), (9, Value.int .i64 (((i : Nat) : Int))), (14, Value.bool false), (22, Value.bool (decide (40 < ((d1.length : Nat) : Int)))), (28, Value.bool (decide (((i : Nat) : Int) < ((d0.length : Nat) : Int)))), (60, Value.bool (decide (¬ ((x8 ++ spareO) = x8 ++ spareO))))]) (fun g => [(106, m14), (105, m13), (109, (g.2.2)), (0, wm W)]) (fun g => ((g.1) ≤ x8.length + 3) ∧ ((g.2.1).length = x8.length + 3) ∧ (OwnL TOp (g.2.2) mnil (.slice A9_0 ((x8 ++ spareO).length) (c9_0)) (g.2.1))) (fun g => x8.length + 3 - (g.1)) (0, x8 ++ spareO, m9) (⟨by omega, by (rw [List.length_append]; rfl), (Ow.ownl f9_0 rfl mnil)⟩) ⟨⟨rfl, rfl, rfl, rfl, rfl, rfl, rfl, rfl, rfl, rfl, rfl, rfl, trivial⟩, fun _ h => h.sub [106, 105, 109, 0]⟩ ?_
            rintro ⟨j, f, f_m⟩ ⟨hj, hf, h_f⟩
            replace hj : j ≤ x8.length + 3 := hj
            replace hf : f.length = x8.length + 3 := hf
            replace h_f : OwnL TOp f_m mnil (.slice A9_0 ((x8 ++ spareO).length) (c9_0)) f := h_f
            show VC _ _ _ _ _ [(10, Value.slice A9_0 ((x8 ++ spareO).length) (c9_0)), (11, Value.int .i64 (((j : Nat) : Int))), (0, Value.slice (some ⟨gg8, oo8, none⟩) (d0.length) (c0)), (1, Value.slice A1 (d1.length) (c1)), (2, Value.int .i64 (d2)), (7, Value.pointer (some ⟨s5_0, 0, none⟩)), (8, Value.pointer (some ⟨s6_0, 0, none⟩)), (9, Value.int .i64 (((i : Nat) : Int))), (14, Value.bool false), (22, Value.bool (decide (40 < ((d1.length : Nat) : Int)))), (28, Value.bool (decide (((i : Nat) : Int) < ((d0.length : Nat) : Int)))), (60, Value.bool (decide (¬ ((x8 ++ spareO) = x8 ++ spareO))))] [(106, m14), (105, m13), (109, f_m), (0, wm W)]
            have ll_f := slice_len (OwnL.ow h_f rfl)
            refine VC.seq ?_
            refine VC.rs ?_
            refine VO.mv ?_
            refine VO.mv ?_
            refine VO.y rfl (.lenS rfl tsl30) ?_
            refine VO.y rfl (.lss rfl rfl) ?_
            refine VO.k13 0 1 2 7 8 9 10 11 14 22 28 60 64 ?_
            refine VC.cond rfl (fun hc20 => ?_) (fun hc20 => ?_)
            · -- FFTFFT
              refine VC.skip ?_
              refine outN ?_
              refine VC.seq ?_
              refine VC.block ?_
              refine VC.reg ?_
              refine VO.mv ?_
              refine VO.mv ?_
              refine VO.y rfl (.bst (cs := [Value.bool true, str ([111, 118, 101, 114]), str ([])]) rfl tst37 tz37 rfl) ?_
              obtain ⟨x21, hx21⟩ : ∃ z_, (f)[j]? = some z_ := ⟨_, List.getElem?_eq_getElem bd⟩
              obtain ⟨gg21, oo21, ec21, ea21, hce21, hre21⟩ := h_f.elem hx21
              cases ea21
              obtain ⟨rfl, q21_1, q21_2⟩ := open_Op (x0 := x21.1) (x1 := x21.2.1) (x2 := x21.2.2) hre21
              simp only [maxLen] at q21_1
              simp only [maxLen] at q21_2
              refine VO.y rfl (.ixI j rfl rfl tsl30 rfl bd) ?_
              refine VO.upd (e := TOp) (k := 3) (i := j) (x' := (true, [111, 118, 101, 114], [])) 109 0 rfl rfl (.inl tk37) rfl rfl rfl (OwnL.ow h_f rfl) rfl hx21 rfl (fun mi ec he => by obtain ⟨rfl, z1, z2⟩ := open_Op (x0 := x21.1) (x1 := x21.2.1) (x2 := x21.2.2) (he.rd (mle_refl _)); exact Ow.of (m := mnil) rfl (mk_Op true ([111, 118, 101, 114]) [] bdm bdm)) (fun mu22 hu22 => ?_)
              have hl22 := slice_len hu22
              refine VO.k13 0 1 2 7 8 9 10 11 14 22 28 60 64 ?_
              refine outBN ?_
              refine outN ?_
              refine VC.reg ?_
              refine VO.mv ?_
              refine VO.y rfl (.add (c := ((j + 1 : Nat) : Int)) rfl rfl (by omega) ⟨bd, bd⟩) ?_
              refine VO.as ?_
              refine VO.kp [106, 105, 109, 0] [(106, m14), (105, m13), (109, mu22), (0, wm W)] ?_
              refine VO.k13 0 1 2 7 8 9 10 11 14 22 28 60 64 ?_
              exact outN ⟨⟨j + 1, (f).set j (true, [111, 118, 101, 114], []), mu22⟩, ⟨by omega, by (rw [List.length_set]; exact hf), (Ow.ownl hu22 rfl mnil)⟩, bd, ⟨⟨rfl, rfl, rfl, rfl, rfl, rfl, rfl, rfl, rfl, rfl, rfl, rfl, trivial⟩, fun _ h => Inv.sub h [106, 105, 109, 0]⟩⟩
            · -- FFTFFF
              refine VC.exit ?_
              refine outE ?_
              refine outE ?_
              refine outBB ?_
              refine outN ?_
              refine VC.rs ?_
              refine VO.mv ?_
              refine VO.mv ?_
              refine VO.mv ?_
              refine VO.gather (l := [m13, m14]) 124 [105, 106] rfl (fun hg23 => ?_)
              refine VO.call 124 rfl fnOk16 rfl rfl (fun W hW => same7_ok W (hW.at (i := 124) rfl) hg23 w13_0 w14_0 (Rd.mono h1 (hW.out (i := 124) (j := 0) rfl rfl)) (by assumption) (by assumption) bd bd) (fun v23 m23 hv23 => ?_)
              obtain ⟨p23_0, p23_1, rfl, hS23, w23_0, w23_1⟩ := hv23
              refine VO.inv _ (fun _ h => h.parts (i := 124) rfl hS23 [125, 126]) ?_
              refine VO.y rfl (.not rfl) ?_
              refine VO.k14 0 1 2 7 8 9 10 11 14 22 28 60 64 75 ?_
              refine VC.condF rfl ?_
              refine VC.skip ?_
              refine outBN ?_
              refine outN ?_
              refine VC.reg ?_
              refine VO.mv ?_
              refine VO.y rfl (.add (c := ((i + 1 : Nat) : Int)) rfl rfl (by omega) ⟨bd, bd⟩) ?_
              refine VO.as ?_
              refine VO.kp [125, 126, 109, 0] [(125, p23_0), (126, p23_1), (109, f_m), (0, wm W)] ?_
              refine VO.k14 0 1 2 7 8 9 10 11 14 22 28 60 64 75 ?_
              exact outN ⟨⟨i + 1, ((mApply t x8).1), p23_0, ((tApply r x8).1), p23_1⟩, ⟨by (dsimp only; omega), by exact hsc1, by exact hsc3, by (dsimp only; omega), by (dsimp only; omega), w23_0, w23_1⟩, by (dsimp only; omega), ⟨⟨rfl, rfl, rfl, rfl, rfl, rfl, rfl, rfl, trivial⟩, fun _ h => Inv.sub (Inv.num (Inv.num h 125 105 rfl) 126 106 rfl) [106, 105, 0]⟩⟩
      · -- FFF
        refine VC.exit ?_
        refine outE ?_
        refine outE ?_
        refine outBB ?_
        refine outN ?_
        refine VC.rs ?_
        refine VO.mv ?_
        refine VO.mv ?_
        refine VO.y rfl (.nilp rfl) ?_
        refine VO.y rfl (.fa rfl tst41 rfl) ?_
        obtain ⟨q27_E, q27_A1, q27_c1, q27_n1, _, q27_S, q27_1⟩ := openP_ref07Table (x0 := r.1) (x1 := r.2) h_r
        have q27_r1 := q27_1.rm
        refine VO.inv _ (fun _ h => h.parts (i := 106) rfl q27_S [129, 128]) ?_
        refine VO.y rfl (.ld1 129 rfl tk30 rfl (cellsAt_one rfl rfl)) ?_
        refine VO.y rfl (.lenS rfl tsl30) ?_
        refine VO.y rfl (.add (c := ((r.2.length + 1 : Nat) : Int)) rfl rfl (by omega) ⟨bd, bd⟩) ?_
        refine VO.callN 130 rfl fnOk17 rfl (fun W hW => pick_ok W d2 bdk ((r.2.length + 1 : Nat) : Int) bdk bd) (fun v30 m30 hv30 => ?_)
        subst hv30
        have hfa31 := pickI_bounds d2 ((r.2.length + 1 : Nat) : Int) (by omega)
        refine VO.as ?_
        refine VO.clsP 132 [129, 128] rfl (fun hg32 => (show Ow (.ptr Tref07Table) _ _ (_, r) from (mkP_ref07Table r.1 r.2 hg32 (OwnL.ow (Ow.ownl q27_1 rfl mnil) rfl)))) (fun mc32 ho32 => ?_)
        refine VO.k10 0 1 2 7 8 9 12 14 22 28 ?_
        refine VC.rs ?_
        refine VO.mv ?_
        refine VO.mv ?_
        refine VO.call 105 rfl fnOk19 rfl rfl (fun W hW => all7_ok W (hW.at (i := 105) rfl) h_t (pickI d2 ((r.2.length + 1 : Nat) : Int)) bdk bd) (fun v33 m33 hv33 => ?_)
        obtain ⟨s33_0, p33_0, p33_1, rfl, hS33, f33_0, w33_0⟩ := hv33
        refine VO.inv _ (fun _ h => h.parts (i := 105) rfl hS33 [134, 135]) ?_
        obtain ⟨A33_0, c33_0, eq33_0, l33_0, k33_0⟩ := f33_0.slice
        subst eq33_0
        simp only [maxLen] at k33_0
        refine VO.mv ?_
        obtain ⟨q37_E, q37_A1, q37_c1, q37_n1, _, q37_S, q37_1⟩ := openP_ref07Table (x0 := r.1) (x1 := r.2) ho32
        have q37_r1 := q37_1.rm
        refine VO.inv _ (fun _ h => h.parts (i := 132) rfl q37_S [139, 138]) ?_
        refine VO.callN 136 rfl fnOk20 rfl (fun W hW => t7AllR_ok W (show Rd Tref07Table _ _ r from (mk_ref07Table (m := wm W) r.1 r.2 (OwnL.rd (Ow.ownl q37_1 rfl mnil) (hW.at (i := 138) rfl) (mle_nil _)))) (hW.at (i := 139) rfl) (by assumption) bd) (fun v36 m36 hv36 => ?_)
        obtain ⟨s36_0, rfl, f36_0⟩ := hv36
        obtain ⟨A36_0, c36_0, eq36_0, l36_0, k36_0⟩ := f36_0.slice
        subst eq36_0
        simp only [maxLen] at k36_0
        refine VO.mv ?_
        have hs40 := (OwnL.rd (Ow.ownl f36_0 rfl mnil) (mle_refl _) (mle_nil _)).pre (j := ((pickI d2 ((r.2.length + 1 : Nat) : Int)).toNat)) bd
        refine VO.y rfl (.slHI ((pickI d2 ((r.2.length + 1 : Nat) : Int)).toNat) rfl rfl tsl30 bd bd) ?_
        refine VO.callN 141 rfl fnOk18 rfl (fun W hW => SameOps_ok W (OwnL.rd (Ow.ownl f33_0 rfl mnil) (hW.at (i := 134) rfl) (mle_nil _)) (OwnL.rd ((Ow.ownl f36_0 rfl mnil).pre (j := ((pickI d2 ((r.2.length + 1 : Nat) : Int)).toNat)) bd) (hW.at (i := 136) rfl) (mle_nil _))) (fun v41 m41 hv41 => ?_)
        subst hv41
        refine VO.mv ?_
        refine VO.dec (t := 92) rfl (fun hc42 => ?_) (fun hc42 => ?_)
        · -- FFFT
          refine VO.gy rfl ⟨_, rfl, rfl⟩ (.mv rfl) ?_
          refine VO.gy rfl ⟨_, rfl, rfl⟩ (.mv rfl) ?_
          refine VO.gy rfl ⟨_, rfl, rfl⟩ (.mv rfl) ?_
          refine VO.clsP 144 [139, 138] rfl (fun hg44 => (show Ow (.ptr Tref07Table) _ _ (_, r) from (mkP_ref07Table r.1 r.2 hg44 (OwnL.ow (Ow.ownl q37_1 rfl mnil) rfl)))) (fun mc44 ho44 => ?_)
          refine VO.gather (l := [p33_1, mc44]) 145 [135, 144] rfl (fun hg43 => ?_)
          refine VO.gcall 145 rfl ⟨_, rfl, rfl⟩ fnOk16 rfl rfl (fun W hW => same7_ok W (hW.at (i := 145) rfl) hg43 w33_0 ho44 (Rd.mono h1 (hW.out (i := 145) (j := 0) rfl rfl)) (by assumption) (by assumption) bd bd) (fun v43 m43 hv43 => ?_)
          obtain ⟨p43_0, p43_1, rfl, hS43, w43_0, w43_1⟩ := hv43
          refine VO.inv _ (fun _ h => h.parts (i := 145) rfl hS43 [146, 147]) ?_
          refine VO.y rfl (.pT rfl rfl) ?_
          refine VO.as ?_
          refine VO.k11 0 1 2 6 7 8 9 12 14 22 28 ?_
          refine VC.ret ?_
          refine ⟨_, _, res_run (rs := [.tmp 6]) rfl (.tmp rfl .nil), fun W_ hI => out_of (l := []) hI [] rfl rfl (mle_refl _) (fun hS_ => ?_)⟩
          dsimp only [packV]
          all_goals (first | rfl | (rfl))
        · -- FFFF
          exact absurd (sc_take (ow_nodup h_t) hT (by omega)) hc42
section
open Go.ChangeShapes Go.WideShapes Go.ChangeAt Go.RowKit
theorem tableScript_ok0 : tyOk Try.prog 60 (.sl (.sl TOp)) (.inl 22) = true := by kernel_rfl
theorem tableScript_ok1 : tyOk Try.prog 60 (.sl .str) (.inl 23) = true := by kernel_rfl
set_option maxRecDepth 100000 in
theorem tableScript_lifted (os : Os) (started : os.Started) (H : Type) (enc : TypeId × Value → H) :
    ReturnsInHanded {} Try.checked os 3 .any (Rows.tableScriptSpec.pre6 enc Try.prog Try.f3 Rows.tableScriptRow.domain false) (Rows.tableScriptSpec.post enc Try.prog Try.f3 false true false false) := by
  refine returnsInHanded_of_change (C := Try.checked) (by kernel_rfl) started (by kernel_rfl) Try.func3
    (ChangeSpec.witness6 (enc := enc) (C := Try.checked) false ⟨#[], #[.slice none 0 0, .slice none 0 0, .int .i64 0], []⟩ 8 (by kernel_rfl) (by kernel_rfl) (by kernel_rfl) (by kernel_rfl)) ?_
  intro W base args ds gs before hval0 hW hcnd _
  have hval : ∀ (j : Nat) t v, Try.f3.params[j]? = some t → args[j]? = some v → Value.okWide Try.prog W .any base t v := hval0
  have hW' := hW
  obtain ⟨p, q, hA0, hV, rfl, hfz, hnd⟩ := hW
  have hA : DataW.TrodAll enc Try.prog W 0 (fun _ => true) true Try.f3.params.toList args.toList ds p := hA0
  rw [Try.params3] at hA hval
  clear hA0 hval0
  obtain ⟨args⟩ := args
  obtain ⟨v0, r0, d0, e0, p0, q0, ha0, rfl, rfl, h0, hA0⟩ := trodAll_cons hA
  simp only at ha0; subst ha0
  obtain ⟨v1, r1, d1, e1, p1, q1, ha1, rfl, rfl, h1, hA1⟩ := trodAll_cons hA0
  subst ha1
  obtain ⟨v2, r2, d2, e2, p2, q2, ha2, rfl, rfl, h2, hA2⟩ := trodAll_cons hA1
  subst ha2
  obtain ⟨rfl, rfl, rfl⟩ := trodAll_nil hA2
  obtain ⟨x0, hx0⟩ := arg_sl 60 tableScript_ok0 Try.underlying22 (hval 0 22 v0 rfl rfl) h0
  obtain ⟨x1, hx1⟩ := arg_sl 60 tableScript_ok1 Try.underlying23 (hval 1 23 v1 rfl rfl) h1
  obtain ⟨x2, rfl, hx2⟩ := arg_int Try.underlying3 (hval 2 3 v2 rfl rfl) h2
  refine (calls_of (tableScript_ok W hx0 hx1 x2 hx2)).mono fun e W' ⟨he, hg⟩ => ?_
  subst he
  exact ⟨_, rfl, law_post hW' hg laidOut_ok (by kernel_rfl) rfl Try.underlying4 rfl rfl rfl rfl⟩
theorem tableScript_joined : joinedFacts Try.prog 3 Try.f3 Rows.tableScriptSpec Rows.tableScriptRow = true := by
  unfold joinedFacts
  rw [laidOut_ok, mapsRowed_ok, stopsHeard_ok, mayEnter_ok, lifts_ok, make_ok]
  kernel_rfl
theorem tableScript_proved : Rows.TableScriptSaid :=
  OpenClaim.holds_of_wide 3 Try.f3 rfl rfl rfl rfl rfl rfl rfl ⟨rfl, rfl, rfl, rfl, rfl⟩ rfl rfl rfl rfl rfl (by kernel_rfl) Try.func3 tableScript_joined
    (of_decide_eq_true (by kernel_rfl)) (by unfold Func.isWrapper; first | (rw [if_pos (by decide +kernel)]; kernel_rfl) | (rw [if_neg (by decide +kernel)]; exact ⟨rfl, rfl⟩))
    (fun os started H enc _ => tableScript_lifted os started H enc)
#print axioms tableScript_proved
end
end Go.Proofs.Ytdeleponmhlfkaa
