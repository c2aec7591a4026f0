/- Part 6 of the proof of LStoreFold: what it needs of the library, the walks and the plain laws. Conditions: those named in each theorem. -/
import Derived.Test.YtonbpfncmlijnaaGreatLStoreFoldM5
set_option linter.unusedVariables false
set_option linter.unusedSimpArgs false
set_option maxRecDepth 4000
namespace Go.Proofs.YtonbpfncmlijnaaGreat
theorem fnOk25 : fnOk Tryz.prog 25 = true := by kernel_rfl
theorem tsl49 : tsl Tryz.prog 49 = some (34, 1, 24) := by kernel_rfl
theorem tsl50 : tsl Tryz.prog 50 = some (3, 1, 8) := by kernel_rfl
theorem fnOk15 : fnOk Tryz.prog 15 = true := by kernel_rfl
set_option maxHeartbeats 8000000 in
theorem storeFold_ok (W : World) {v0 : Value} {d0 : List (List DOp)} (h0 : Rd (.sl (.sl TOp)) (wm W) [v0] d0) {v1 : Value} {d1 : List Int} (h1 : Rd (.sl (.int .i64)) (wm W) [v1] d1) {v2 : Value} {d2 : List (List UInt8)} (h2 : Rd (.sl .str) (wm W) [v2] d2) : CallR Tryz.prog 6 [v0, v1, v2] W (mnil) (fun v m' => v = .bool true) := by
  obtain ⟨A0, c0, rfl, l0, k0⟩ := h0.slice
  simp only [maxLen] at k0
  obtain ⟨A1, c1, rfl, l1, k1⟩ := h1.slice
  simp only [maxLen] at k1
  obtain ⟨A2, c2, rfl, l2, k2⟩ := h2.slice
  simp only [maxLen] at k2
  refine CallR.ofXA (n := 148) Tryz.func6 rfl rfl rfl ?_
  refine VX.rs ?_
  refine VO.as ?_
  refine VO.k4 0 1 2 6 ?_
  refine VX.seq ?_
  refine VX.rs ?_
  refine VO.callN 101 rfl fnOk8 rfl (fun W hW => lives14_ok W ) (fun v1 m1 hv1 => ?_)
  subst hv1
  refine VO.y rfl (.not rfl) ?_
  refine VO.k5 0 1 2 6 22 ?_
  refine VX.condF rfl ?_
  refine VX.skip ?_
  refine outN ?_
  refine VX.seq ?_
  refine VX.rs ?_
  refine VO.mv ?_
  refine VO.y rfl (.lenS rfl tsl49) ?_
  refine VO.y rfl (.gtr rfl rfl) ?_
  refine VO.mv ?_
  refine VO.dec (t := 26) rfl (fun hc2 => ?_) (fun hc2 => ?_)
  · -- T
    refine VO.gN ?_
    refine VO.gN ?_
    refine VO.gN ?_
    refine VO.y rfl (.pT rfl rfl) ?_
    refine VO.kp [0] [(0, wm W)] ?_
    refine VO.k6 0 1 2 6 22 30 ?_
    refine VX.condT rfl ?_
    refine VX.rs ?_
    refine VO.as ?_
    refine VO.k6 0 1 2 6 22 30 ?_
    refine VX.ret ?_
    refine outR ?_
    refine ⟨_, _, res_run (rs := [.tmp 6]) rfl (.tmp rfl .nil), fun W_ hI => out_of (l := []) hI [] rfl rfl (mle_refl _) (fun hS_ => ?_)⟩
    dsimp only [packV]
    all_goals (first | rfl | (first | rfl | exact congrArg Value.bool (decide_eq_true (by rw [how]; exact sf_all hF (ow_nodup h_t)))))
  · -- F
    refine VO.gy rfl ⟨_, rfl, rfl⟩ (.mv rfl) ?_
    refine VO.gy rfl ⟨_, rfl, rfl⟩ (.lenS rfl tsl57) ?_
    refine VO.gy rfl ⟨_, rfl, rfl⟩ (.gtr rfl rfl) ?_
    refine VO.y rfl (.pF rfl rfl) ?_
    refine VO.kp [0] [(0, wm W)] ?_
    refine VO.k6 0 1 2 6 22 30 ?_
    refine VX.cond rfl (fun hc3 => ?_) (fun hc3 => ?_)
    · -- FT
      refine VX.rs ?_
      refine VO.as ?_
      refine VO.k6 0 1 2 6 22 30 ?_
      refine VX.ret ?_
      refine outR ?_
      refine ⟨_, _, res_run (rs := [.tmp 6]) rfl (.tmp rfl .nil), fun W_ hI => out_of (l := []) hI [] rfl rfl (mle_refl _) (fun hS_ => ?_)⟩
      dsimp only [packV]
      all_goals (first | rfl | (first | rfl | exact congrArg Value.bool (decide_eq_true (by rw [how]; exact sf_all hF (ow_nodup h_t)))))
    · -- FF
      refine VX.skip ?_
      refine outN ?_
      refine VX.rs ?_
      by_cases hsp4 : (cFollows 1 0 []).1 = 0
      · -- FFT
        refine VO.callN 105 rfl fnOk9 rfl (fun W hW => madeY_ok W (Rd.nil _ _ none 0 (Nat.zero_le _)) (by assumption) bd) (fun v5 m5 hv5 => ?_)
        obtain ⟨s5_0, gt2_5, gu2_5, gd2_5, rfl, f5_0⟩ := hv5
        refine VO.mv ?_
        refine VO.y rfl (.ext rfl rfl) ?_
        refine VO.y rfl (.ext rfl rfl) ?_
        refine VO.as ?_
        refine VO.as ?_
        refine VO.k8 0 1 2 6 7 8 22 30 ?_
        refine VX.rs ?_
        refine VO.callN 106 rfl fnOk23 rfl (fun W hW => tNew_ok W ) (fun v6 m6 hv6 => ?_)
        obtain ⟨s6_0, rfl, f6_0⟩ := hv6
        refine VO.as ?_
        refine VO.k9 0 1 2 6 7 8 9 22 30 ?_
        refine VX.seq ?_
        refine VX.rs ?_
        refine VO.mv ?_
        refine VO.y rfl (.neq rfl rfl) ?_
        refine VO.mv ?_
        refine VO.dec (t := 38) rfl (fun hc7 => ?_) (fun hc7 => ?_)
        · -- FFTT
          first | exact absurd rfl hc7 | exact absurd hc7 (by omega) | exact absurd hA.1 hc7 | exact absurd hF2.e hc7 | (rcases (hB _).1 with h_ | h_ <;> contradiction) | exact absurd (sf_get hF _).1 hc7 | exact absurd (by rw [(sf_get hF _).2]) hc7 | (exfalso; omega)
        · -- FFTF
          refine VO.gy rfl ⟨_, rfl, rfl⟩ (.mv rfl) ?_
          refine VO.gy rfl ⟨_, rfl, rfl⟩ (.pnil rfl rfl Tryz.underlying23 rfl) ?_
          refine VO.y rfl (.pF rfl rfl) ?_
          refine VO.mv ?_
          refine VO.gy rfl ⟨_, rfl, rfl⟩ (.mv rfl) ?_
          refine VO.gy rfl ⟨_, rfl, rfl⟩ (.pnil rfl rfl Tryz.underlying37 rfl) ?_
          refine VO.y rfl (.pF rfl rfl) ?_
          refine VO.kp [106, 105, 0] [(106, m6), (105, m5), (0, wm W)] ?_
          refine VO.k10 0 1 2 6 7 8 9 22 30 45 ?_
          refine VX.condF rfl ?_
          refine VX.skip ?_
          refine outN ?_
          refine VX.seq ?_
          refine VX.rs ?_
          refine VO.as ?_
          refine VO.k11 0 1 2 6 7 8 9 10 22 30 45 ?_
          refine VX.block ?_
          refine VX.loop (G := Nat × Nat × DtableTable × DdiskDisk × Bool × (List DRun) × (List DCommit) × Mem × DtableTable × Mem) (fun g => [(10, Value.int .i64 ((((g.1) : Nat) : Int))), (0, Value.slice A0 (d0.length) (c0)), (1, Value.slice A1 (d1.length) (c1)), (2, Value.slice A2 (d2.length) (c2)), (7, Value.pointer (some ⟨s5_0, 0, none⟩)), (8, Value.int .i64 (0)), (9, Value.pointer (some ⟨s6_0, 0, none⟩)), (22, Value.bool false), (30, Value.bool (decide (40 < ((d2.length : Nat) : Int)))), (45, Value.bool false)]) (fun g => [(106, (g.2.2.2.2.2.2.2.2.2)), (105, (g.2.2.2.2.2.2.2.1)), (0, wm W)]) (fun g => ((g.1) ≤ d0.length) ∧ (SF (g.1) (g.2.2.2.1) (g.2.2.2.2.1) (g.2.2.2.2.2.1) (g.2.2.2.2.2.2.1) (g.2.2.2.2.2.2.2.2.1)) ∧ ((g.2.2.1) = sT (g.2.2.2.2.2.2.1)) ∧ ((g.2.2.2.2.2.2.1).length ≤ (g.1)) ∧ ((g.2.2.2.2.2.1).length ≤ (g.1)) ∧ (wD (g.2.2.2.1) ≤ 200000 * (g.1)) ∧ ((g.2.2.2.2.2.2.2.2.1).length ≤ 8 * (g.1)) ∧ (Ow (.ptr TstoreStore) (g.2.2.2.2.2.2.2.1) [.pointer (some ⟨s5_0, 0, none⟩)] (s5_0, (((g.2.1), (g.2.2.1)), (gu2_5, ((gd2_5, (g.2.2.2.1)), (g.2.2.2.2.1), (g.2.2.2.2.2.1))), (g.2.2.2.2.2.2.1)))) ∧ (Ow (.ptr TtableTable) (g.2.2.2.2.2.2.2.2.2) [.pointer (some ⟨s6_0, 0, none⟩)] (s6_0, (g.2.2.2.2.2.2.2.2.1)))) (fun g => d0.length - (g.1)) (0, gt2_5, (sT []), newD, false, ([] : List DRun), [], m5, ([] : MapD), m6) (⟨by (dsimp only; omega), by exact sf_new, by rfl, by (dsimp only; exact Nat.le_refl _), by (dsimp only; exact Nat.le_refl _), by (dsimp only; exact Nat.le_refl _), by (dsimp only; exact Nat.le_refl _), f5_0, f6_0⟩) ⟨⟨rfl, rfl, rfl, rfl, rfl, rfl, rfl, rfl, rfl, rfl, trivial⟩, fun _ h => h.sub [106, 105, 0]⟩ ?_
          rintro ⟨i, w_0g, w_0, w_1_0, w_1_1, w_1_2, w_2, w_m, t, t_m⟩ ⟨hi, hF, hT, hrl, hul, hw, htl, h_w, h_t⟩
          replace hi : i ≤ d0.length := hi
          replace hF : SF i w_1_0 w_1_1 w_1_2 w_2 t := hF
          replace hT : w_0 = sT w_2 := hT
          replace hrl : w_2.length ≤ i := hrl
          replace hul : w_1_2.length ≤ i := hul
          replace hw : wD w_1_0 ≤ 200000 * i := hw
          replace htl : t.length ≤ 8 * i := htl
          replace h_w : Ow (.ptr TstoreStore) w_m [.pointer (some ⟨s5_0, 0, none⟩)] (s5_0, ((w_0g, w_0), (gu2_5, ((gd2_5, w_1_0), w_1_1, w_1_2)), w_2)) := h_w
          replace h_t : Ow (.ptr TtableTable) t_m [.pointer (some ⟨s6_0, 0, none⟩)] (s6_0, t) := h_t
          show VX _ _ _ _ _ _ _ [(10, Value.int .i64 (((i : Nat) : Int))), (0, Value.slice A0 (d0.length) (c0)), (1, Value.slice A1 (d1.length) (c1)), (2, Value.slice A2 (d2.length) (c2)), (7, Value.pointer (some ⟨s5_0, 0, none⟩)), (8, Value.int .i64 (0)), (9, Value.pointer (some ⟨s6_0, 0, none⟩)), (22, Value.bool false), (30, Value.bool (decide (40 < ((d2.length : Nat) : Int)))), (45, Value.bool false)] [(106, t_m), (105, w_m), (0, wm W)]
          have hFu := hF.okU; have hFs := hF.s; have hFd := hF.okD
          refine VX.seq ?_
          refine VX.rs ?_
          refine VO.mv ?_
          refine VO.mv ?_
          refine VO.y rfl (.lenS rfl tsl49) ?_
          refine VO.y rfl (.lss rfl rfl) ?_
          refine VO.k11 0 1 2 7 8 9 10 22 30 45 49 ?_
          refine VX.cond rfl (fun hc8 => ?_) (fun hc8 => ?_)
          · -- FFTFT
            refine VX.skip ?_
            refine outN ?_
            refine VX.seq ?_
            refine VX.block ?_
            refine VX.seq ?_
            refine VX.rs ?_
            refine VO.mv ?_
            refine VO.mv ?_
            obtain ⟨x9, hx9⟩ : ∃ z_, (d0)[i]? = some z_ := ⟨_, List.getElem?_eq_getElem bd⟩
            obtain ⟨gg9, oo9, ec9, ea9, hce9, hre9⟩ := h0.elem hx9
            cases ea9
            have hr9 := hre9
            obtain ⟨A9_, c9_, rfl, _⟩ := hre9
            have rr9 := Rd.room hr9
            refine VO.y rfl (.ixI i rfl rfl tsl49 rfl bd) ?_
            refine VO.y rfl (.ld1 0 rfl tk34 rfl hce9) ?_
            refine VO.y rfl (.lenS rfl tsl34) ?_
            refine VO.y rfl (.gtr rfl rfl) ?_
            refine VO.mv ?_
            refine VO.dec (t := 58) rfl (fun hc10 => ?_) (fun hc10 => ?_)
            · -- FFTFTT
              refine VO.gN ?_
              refine VO.gN ?_
              refine VO.gN ?_
              refine VO.gN ?_
              refine VO.gN ?_
              refine VO.gN ?_
              refine VO.gN ?_
              refine VO.gN ?_
              refine VO.gN ?_
              refine VO.gN ?_
              refine VO.y rfl (.pT rfl rfl) ?_
              refine VO.kp [106, 105, 0] [(106, t_m), (105, w_m), (0, wm W)] ?_
              refine VO.k12 0 1 2 7 8 9 10 22 30 45 49 69 ?_
              refine VX.condT rfl ?_
              refine VX.rs ?_
              refine VO.as ?_
              refine VO.k13 0 1 2 6 7 8 9 10 22 30 45 49 69 ?_
              refine VX.ret ?_
              refine outR ?_
              refine outBR ?_
              refine outR ?_
              refine outR ?_
              refine outBR ?_
              refine outR ?_
              refine ⟨_, _, res_run (rs := [.tmp 6]) rfl (.tmp rfl .nil), fun W_ hI => out_of (l := []) hI [] rfl rfl (mle_refl _) (fun hS_ => ?_)⟩
              dsimp only [packV]
              all_goals (first | rfl | (first | rfl | exact congrArg Value.bool (decide_eq_true (by rw [how]; exact sf_all hF (ow_nodup h_t)))))
            · -- FFTFTF
              refine VO.gy rfl ⟨_, rfl, rfl⟩ (.mv rfl) ?_
              refine VO.gy rfl ⟨_, rfl, rfl⟩ (.mv rfl) ?_
              refine VO.gy rfl ⟨_, rfl, rfl⟩ (.add (c := ((i + 1 : Nat) : Int)) rfl rfl (by omega) ⟨bd, bd⟩) ?_
              refine VO.gy rfl ⟨_, rfl, rfl⟩ (.mv rfl) ?_
              refine VO.gy rfl ⟨_, rfl, rfl⟩ (.mv rfl) ?_
              refine VO.gy rfl ⟨_, rfl, rfl⟩ (.ixI i rfl rfl tsl49 rfl bd) ?_
              refine VO.gy rfl ⟨_, rfl, rfl⟩ (.ld1 0 rfl tk34 rfl hce9) ?_
              refine VO.gy rfl ⟨_, rfl, rfl⟩ (.bst (cs := [Value.int .i64 (1), Value.int .i64 (((i + 1 : Nat) : Int)), Value.slice A9_ (x9.length) (c9_)]) rfl tst36 tz36 rfl) ?_
              refine VO.gcall 105 rfl ⟨_, rfl, rfl⟩ fnOk15 rfl rfl (fun W hW => sApply_ok_ W (hW.at (i := 105) rfl) h_w (mk_Commit (m := mout (wm W) (w_m)) 1 ((i + 1 : Nat) : Int) x9 bdk bdk (Rd.mono hr9 (hW.out (i := 105) (j := 0) rfl rfl))) (by first | assumption | rfl) (by assumption) bd) (fun v12 m12 hv12 => ?_)
              try dsimp only at hv12
              obtain ⟨rfl, w12_0⟩ := hv12
              refine VO.gy rfl ⟨_, rfl, rfl⟩ (.neq rfl rfl) ?_
              refine VO.y rfl (.pF rfl rfl) ?_
              refine VO.kp [105, 106, 0] [(105, m12), (106, t_m), (0, wm W)] ?_
              refine VO.k12 0 1 2 7 8 9 10 22 30 45 49 69 ?_
              refine VX.cond rfl (fun hc13 => ?_) (fun hc13 => ?_)
              · -- FFTFTFT
                refine VX.rs ?_
                refine VO.as ?_
                refine VO.k13 0 1 2 6 7 8 9 10 22 30 45 49 69 ?_
                refine VX.ret ?_
                refine outR ?_
                refine outBR ?_
                refine outR ?_
                refine outR ?_
                refine outBR ?_
                refine outR ?_
                refine ⟨_, _, res_run (rs := [.tmp 6]) rfl (.tmp rfl .nil), fun W_ hI => out_of (l := []) hI [] rfl rfl (mle_refl _) (fun hS_ => ?_)⟩
                dsimp only [packV]
                all_goals (first | rfl | (first | rfl | exact congrArg Value.bool (decide_eq_true (by rw [how]; exact sf_all hF (ow_nodup h_t)))))
              · -- FFTFTFF
                refine VX.skip ?_
                refine outN ?_
                refine VX.seq ?_
                refine VX.rs ?_
                have hA := sf_apply hF (Decidable.not_not.1 ‹¬ ¬ (sApply _ _ _).2 = 0›)
                have hAu := hA.2.okU; have hAs := hA.2.s; have hAd := hA.2.okD
                have hAr := sApply_len (l := w_1_2) (r := w_2) (c := (1, ((i + 1 : Nat) : Int), x9))
                have hAm := mApply_len t x9
                refine VO.mv ?_
                refine VO.mv ?_
                refine VO.mv ?_
                refine VO.y rfl (.ixI i rfl rfl tsl49 rfl bd) ?_
                refine VO.y rfl (.ld1 0 rfl tk34 rfl hce9) ?_
                refine VO.call 106 rfl fnOk24 rfl rfl (fun W hW => tApply_ok W (hW.at (i := 106) rfl) h_t (Rd.mono hr9 (hW.out (i := 106) (j := 0) rfl rfl))) (fun v15 m15 hv15 => ?_)
                obtain ⟨rfl, w15_0⟩ := hv15
                refine VO.y rfl (.neq rfl rfl) ?_
                refine VO.k13 0 1 2 7 8 9 10 22 30 45 49 69 76 ?_
                refine VX.cond rfl (fun hc16 => ?_) (fun hc16 => ?_)
                · -- FFTFTFFT
                  first | exact absurd rfl hc16 | exact absurd hc16 (by omega) | exact absurd hA.1 hc16 | exact absurd hF2.e hc16 | (rcases (hB _).1 with h_ | h_ <;> contradiction) | exact absurd (sf_get hF _).1 hc16 | exact absurd (by rw [(sf_get hF _).2]) hc16 | (exfalso; omega)
                · -- FFTFTFFF
                  refine VX.skip ?_
                  refine outN ?_
                  refine VX.seqJ (G := Nat × DtableTable × DdiskDisk × Bool × (List DRun) × (List DCommit) × Mem × DtableTable × Mem) (fun g => [(0, Value.slice (some ⟨gg9, oo9, none⟩) (d0.length) (c0)), (1, Value.slice A1 (d1.length) (c1)), (2, Value.slice A2 (d2.length) (c2)), (7, Value.pointer (some ⟨s5_0, 0, none⟩)), (8, Value.int .i64 (0)), (9, Value.pointer (some ⟨s6_0, 0, none⟩)), (10, Value.int .i64 (((i : Nat) : Int))), (22, Value.bool false), (30, Value.bool (decide (40 < ((d2.length : Nat) : Int)))), (45, Value.bool false)]) (fun g => [(105, (g.2.2.2.2.2.2.1)), (106, (g.2.2.2.2.2.2.2.2)), (0, wm W)]) (fun g => (SF (i + 1) (g.2.2.1) (g.2.2.2.1) (g.2.2.2.2.1) (g.2.2.2.2.2.1) (g.2.2.2.2.2.2.2.1)) ∧ ((g.2.1) = sT (g.2.2.2.2.2.1)) ∧ ((g.2.2.2.2.2.1).length ≤ i + 1) ∧ ((g.2.2.2.2.1).length ≤ i + 1) ∧ (wD (g.2.2.1) ≤ 200000 * (i + 1)) ∧ ((g.2.2.2.2.2.2.2.1).length ≤ 8 * (i + 1)) ∧ (Ow (.ptr TstoreStore) (g.2.2.2.2.2.2.1) [.pointer (some ⟨s5_0, 0, none⟩)] (s5_0, (((g.1), (g.2.1)), (gu2_5, ((gd2_5, (g.2.2.1)), (g.2.2.2.1), (g.2.2.2.2.1))), (g.2.2.2.2.2.1)))) ∧ (Ow (.ptr TtableTable) (g.2.2.2.2.2.2.2.2) [.pointer (some ⟨s6_0, 0, none⟩)] (s6_0, (g.2.2.2.2.2.2.2.1)))) ?_ ?_
                  · -- FFTFTFFFTTFJ
                    rintro ⟨v_0g, v_0, v_1_0, v_1_1, v_1_2, v_2, v_m, tt, tt_m⟩ ⟨hF2, hT2, hr2, hu2, hw2, ht2, h_v, h_tt⟩
                    replace hF2 : SF (i + 1) v_1_0 v_1_1 v_1_2 v_2 tt := hF2
                    replace hT2 : v_0 = sT v_2 := hT2
                    replace hr2 : v_2.length ≤ i + 1 := hr2
                    replace hu2 : v_1_2.length ≤ i + 1 := hu2
                    replace hw2 : wD v_1_0 ≤ 200000 * (i + 1) := hw2
                    replace ht2 : tt.length ≤ 8 * (i + 1) := ht2
                    replace h_v : Ow (.ptr TstoreStore) v_m [.pointer (some ⟨s5_0, 0, none⟩)] (s5_0, ((v_0g, v_0), (gu2_5, ((gd2_5, v_1_0), v_1_1, v_1_2)), v_2)) := h_v
                    replace h_tt : Ow (.ptr TtableTable) tt_m [.pointer (some ⟨s6_0, 0, none⟩)] (s6_0, tt) := h_tt
                    show VX _ _ _ _ _ _ _ [(0, Value.slice (some ⟨gg9, oo9, none⟩) (d0.length) (c0)), (1, Value.slice A1 (d1.length) (c1)), (2, Value.slice A2 (d2.length) (c2)), (7, Value.pointer (some ⟨s5_0, 0, none⟩)), (8, Value.int .i64 (0)), (9, Value.pointer (some ⟨s6_0, 0, none⟩)), (10, Value.int .i64 (((i : Nat) : Int))), (22, Value.bool false), (30, Value.bool (decide (40 < ((d2.length : Nat) : Int)))), (45, Value.bool false)] [(105, v_m), (106, tt_m), (0, wm W)]
                    have hFu2 := hF2.okU
                    refine VX.rs ?_
                    refine VO.mv ?_
                    refine VO.call 105 rfl fnOk16 rfl rfl (fun W hW => sEnd_ok W (hW.at (i := 105) rfl) h_v (by assumption) bd) (fun v22 m22 hv22 => ?_)
                    try dsimp only at hv22
                    obtain ⟨rfl, w22_0⟩ := hv22
                    refine VO.mv ?_
                    refine VO.y rfl (.add (c := ((i + 1 : Nat) : Int)) rfl rfl (by omega) ⟨bd, bd⟩) ?_
                    refine VO.y rfl (.neq rfl rfl) ?_
                    refine VO.k11 0 1 2 7 8 9 10 22 30 45 97 ?_
                    refine VX.cond rfl (fun hc23 => ?_) (fun hc23 => ?_)
                    · -- FFTFTFFFTTFJT
                      first | exact absurd rfl hc23 | exact absurd hc23 (by omega) | exact absurd hA.1 hc23 | exact absurd hF2.e hc23 | (rcases (hB _).1 with h_ | h_ <;> contradiction) | exact absurd (sf_get hF _).1 hc23 | exact absurd (by rw [(sf_get hF _).2]) hc23 | (exfalso; omega)
                    · -- FFTFTFFFTTFJF
                      refine VX.skip ?_
                      refine outBN ?_
                      refine outN ?_
                      refine VX.reg ?_
                      refine VO.mv ?_
                      refine VO.y rfl (.add (c := ((i + 1 : Nat) : Int)) rfl rfl (by omega) ⟨bd, bd⟩) ?_
                      refine VO.as ?_
                      refine VO.kp [105, 106, 0] [(105, m22), (106, tt_m), (0, wm W)] ?_
                      refine VO.k11 0 1 2 7 8 9 10 22 30 45 97 ?_
                      exact outN ⟨rfl, ⟨i + 1, v_0g, v_0, v_1_0, v_1_1, v_1_2, v_2, m22, tt, tt_m⟩, ⟨by (dsimp only; omega), by exact hF2, by exact hT2, by (dsimp only; omega), by (dsimp only; omega), by (dsimp only; omega), by (dsimp only; omega), w22_0, h_tt⟩, by (dsimp only; omega), ⟨⟨rfl, rfl, rfl, rfl, rfl, rfl, rfl, rfl, rfl, rfl, trivial⟩, fun _ h => Inv.sub h [106, 105, 0]⟩⟩
                  · -- FFTFTFFFA
                    intro hJ2
                    refine VX.rs ?_
                    refine VO.mv ?_
                    refine VO.mv ?_
                    refine VO.y rfl (.lenS rfl tsl50) ?_
                    refine VO.y rfl (.lss rfl rfl) ?_
                    refine VO.k14 0 1 2 7 8 9 10 22 30 45 49 69 76 80 ?_
                    refine VX.cond rfl (fun hc24 => ?_) (fun hc24 => ?_)
                    · -- FFTFTFFFAT
                      refine VX.rs ?_
                      have hB := fun u : Int => sf_flush (u := u) hA.2 (by omega) (by omega)
                      refine VO.mv ?_
                      refine VO.mv ?_
                      refine VO.mv ?_
                      obtain ⟨x25, hx25⟩ : ∃ z_, (d1)[i]? = some z_ := ⟨_, List.getElem?_eq_getElem bd⟩
                      obtain ⟨gg25, oo25, ec25, ea25, hce25, hre25⟩ := h1.elem hx25
                      cases ea25
                      obtain ⟨rfl, q25⟩ := hre25; simp only [inK] at q25
                      refine VO.y rfl (.ixI i rfl rfl tsl50 rfl bd) ?_
                      refine VO.y rfl (.ld1 0 rfl tk3 rfl hce25) ?_
                      refine VO.call 105 rfl fnOk11 rfl rfl (fun W hW => sFlush_ok W (hW.at (i := 105) rfl) w12_0 x25 bdk (by first | assumption | rfl) (by assumption) (by assumption) bd (by assumption) bd) (fun v26 m26 hv26 => ?_)
                      try dsimp only at hv26
                      obtain ⟨gt2_26, rfl, w26_0⟩ := hv26
                      refine VO.as ?_
                      refine VO.kp [105, 106, 0] [(105, m26), (106, m15), (0, wm W)] ?_
                      refine VO.k15 0 1 2 7 8 9 10 11 22 30 45 49 69 76 80 ?_
                      refine VX.rs ?_
                      refine VO.mv ?_
                      refine VO.y rfl (.neq rfl rfl) ?_
                      refine VO.mv ?_
                      refine VO.dec (t := 89) rfl (fun hc27 => ?_) (fun hc27 => ?_)
                      · -- FFTFTFFFATT
                        refine VO.gy rfl ⟨_, rfl, rfl⟩ (.mv rfl) ?_
                        refine VO.gy rfl ⟨_, rfl, rfl⟩ (.neq rfl rfl) ?_
                        refine VO.y rfl (.pT rfl rfl) ?_
                        refine VO.k16 0 1 2 7 8 9 10 11 22 30 45 49 69 76 80 92 ?_
                        refine VX.cond rfl (fun hc28 => ?_) (fun hc28 => ?_)
                        · -- FFTFTFFFATTT
                          first | exact absurd rfl hc28 | exact absurd hc28 (by omega) | exact absurd hA.1 hc28 | exact absurd hF2.e hc28 | (rcases (hB _).1 with h_ | h_ <;> contradiction) | exact absurd (sf_get hF _).1 hc28 | exact absurd (by rw [(sf_get hF _).2]) hc28 | (exfalso; omega)
                        · -- FFTFTFFFATTF
                          refine VX.skip ?_
                          exact outN (hJ2 ⟨gt2_26, (sT (sFlush w_1_0 w_1_1 w_1_2 ((sApply w_1_2 w_2 (1, ((i + 1 : Nat) : Int), x9)).1) x25).1.2), (sFlush w_1_0 w_1_1 w_1_2 ((sApply w_1_2 w_2 (1, ((i + 1 : Nat) : Int), x9)).1) x25).1.1.1, (sFlush w_1_0 w_1_1 w_1_2 ((sApply w_1_2 w_2 (1, ((i + 1 : Nat) : Int), x9)).1) x25).1.1.2.1, (sFlush w_1_0 w_1_1 w_1_2 ((sApply w_1_2 w_2 (1, ((i + 1 : Nat) : Int), x9)).1) x25).1.1.2.2, (sFlush w_1_0 w_1_1 w_1_2 ((sApply w_1_2 w_2 (1, ((i + 1 : Nat) : Int), x9)).1) x25).1.2, m26, (mApply t x9).1, m15⟩ _ _ ⟨by first | exact hA.2 | exact (hB _).2.1, by rfl, by first | (dsimp only; omega) | (have h_ := (hB _).2.2.1; omega) | exact Nat.le_trans (hB _).2.2.1 (by omega), by first | (dsimp only; omega) | exact Nat.le_trans (hB _).2.2.2.1 (by omega), by first | (dsimp only; omega) | exact Nat.le_trans (hB _).2.2.2.2 (by omega), by (dsimp only; omega), w26_0, w15_0⟩ ⟨⟨rfl, rfl, rfl, rfl, rfl, rfl, rfl, rfl, rfl, rfl, trivial⟩, fun _ h => Inv.sub h [105, 106, 0]⟩)
                      · -- FFTFTFFFATF
                        refine VO.gN ?_
                        refine VO.gN ?_
                        refine VO.y rfl (.pF rfl rfl) ?_
                        refine VO.k16 0 1 2 7 8 9 10 11 22 30 45 49 69 76 80 92 ?_
                        refine VX.condF rfl ?_
                        refine VX.skip ?_
                        exact outN (hJ2 ⟨gt2_26, (sT (sFlush w_1_0 w_1_1 w_1_2 ((sApply w_1_2 w_2 (1, ((i + 1 : Nat) : Int), x9)).1) x25).1.2), (sFlush w_1_0 w_1_1 w_1_2 ((sApply w_1_2 w_2 (1, ((i + 1 : Nat) : Int), x9)).1) x25).1.1.1, (sFlush w_1_0 w_1_1 w_1_2 ((sApply w_1_2 w_2 (1, ((i + 1 : Nat) : Int), x9)).1) x25).1.1.2.1, (sFlush w_1_0 w_1_1 w_1_2 ((sApply w_1_2 w_2 (1, ((i + 1 : Nat) : Int), x9)).1) x25).1.1.2.2, (sFlush w_1_0 w_1_1 w_1_2 ((sApply w_1_2 w_2 (1, ((i + 1 : Nat) : Int), x9)).1) x25).1.2, m26, (mApply t x9).1, m15⟩ _ _ ⟨by first | exact hA.2 | exact (hB _).2.1, by rfl, by first | (dsimp only; omega) | (have h_ := (hB _).2.2.1; omega) | exact Nat.le_trans (hB _).2.2.1 (by omega), by first | (dsimp only; omega) | exact Nat.le_trans (hB _).2.2.2.1 (by omega), by first | (dsimp only; omega) | exact Nat.le_trans (hB _).2.2.2.2 (by omega), by (dsimp only; omega), w26_0, w15_0⟩ ⟨⟨rfl, rfl, rfl, rfl, rfl, rfl, rfl, rfl, rfl, rfl, trivial⟩, fun _ h => Inv.sub h [105, 106, 0]⟩)
                    · -- FFTFTFFFAF
                      refine VX.skip ?_
                      exact outN (hJ2 ⟨w_0g, (sT (sApply w_1_2 w_2 (1, ((i + 1 : Nat) : Int), x9)).1), w_1_0, w_1_1, w_1_2, (sApply w_1_2 w_2 (1, ((i + 1 : Nat) : Int), x9)).1, m12, (mApply t x9).1, m15⟩ _ _ ⟨by first | exact hA.2 | exact (hB _).2.1, by rfl, by first | (dsimp only; omega) | (have h_ := (hB _).2.2.1; omega) | exact Nat.le_trans (hB _).2.2.1 (by omega), by first | (dsimp only; omega) | exact Nat.le_trans (hB _).2.2.2.1 (by omega), by first | (dsimp only; omega) | exact Nat.le_trans (hB _).2.2.2.2 (by omega), by (dsimp only; omega), w12_0, w15_0⟩ ⟨⟨rfl, rfl, rfl, rfl, rfl, rfl, rfl, rfl, rfl, rfl, trivial⟩, fun _ h => Inv.sub h [105, 106, 0]⟩)
          · -- FFTFF
            refine VX.exit ?_
            refine outE ?_
            refine outE ?_
            refine outBB ?_
            refine outN ?_
            refine VX.rs ?_
            refine VO.alloc 130 rfl tz34 (fun g29 => ?_)
            refine VO.kp [130, 106, 105, 0] [(130, mone g29 (.cells [Value.slice none (0) (0)].toArray 34 (0, 0))), (106, t_m), (105, w_m), (0, wm W)] ?_
            refine VO.k12 0 1 2 7 8 9 10 12 22 30 45 49 ?_
            refine VX.seq ?_
            refine VX.rs ?_
            refine VO.mv ?_
            refine VO.call 106 rfl fnOk25 rfl rfl (fun W hW => tLive_ok W (hW.at (i := 106) rfl) h_t bd) (fun v31 m31 hv31 => ?_)
            obtain ⟨s31_0, p31_0, p31_1, rfl, hS31, f31_0, w31_0⟩ := hv31
            refine VO.inv _ (fun _ h => h.parts (i := 106) rfl hS31 [132, 133]) ?_
            have hfa34 := tL_len (d := t)
            have hfa35 := List.length_filter_le (fun o : DOp => o.1) (tL t)
            refine VO.k13 0 1 2 7 8 9 10 12 22 30 45 49 99 ?_
            refine VX.block ?_
            refine VX.inv ((136, mnil) :: _) (fun _ h => h.nilc 136) ?_
            refine VX.gather (l := [mnil, mone g29 (.cells [Value.slice none (0) (0)].toArray 34 (0, 0))]) 138 [136, 130] rfl (fun hg37 => ?_)
            refine VX.inv [(132, p31_0), (138, muns [mnil, mone g29 (.cells [Value.slice none (0) (0)].toArray 34 (0, 0))]), (133, p31_1), (105, w_m), (0, wm W)] (fun _ h => h.sub [132, 138, 133, 105, 0]) ?_
            refine VX.rangeF (A := Int) (G := (List DOp) × (Option Addr) × Nat × Mem) (rest := [(133, p31_1), (105, w_m), (0, wm W)]) 138 132 139 140 141 142 (fun g => muns [(g.2.2.2), mone g29 (.cells [Value.slice (g.2.1) ((g.1).length) ((g.2.2.1))].toArray 34 (0, 0))]) (fun at_ g => ((g.1) = ((tL t).filter (·.1)).take at_.toNat ∧ 0 ≤ at_) ∧ (OwnL TOp (g.2.2.2) mnil (.slice (g.2.1) (g.1).length (g.2.2.1)) (g.1)) ∧ (Seps (muns [(g.2.2.2), mone g29 (.cells [Value.slice (g.2.1) ((g.1).length) ((g.2.2.1))].toArray 34 (0, 0))]) [(g.2.2.2), mone g29 (.cells [Value.slice (g.2.1) ((g.1).length) ((g.2.2.1))].toArray 34 (0, 0))])) (fun e g => e = (.exit 2) ∧ (False) ∧ (OwnL TOp (g.2.2.2) mnil (.slice (g.2.1) (g.1).length (g.2.2.1)) (g.1)) ∧ (Seps (muns [(g.2.2.2), mone g29 (.cells [Value.slice (g.2.1) ((g.1).length) ((g.2.2.1))].toArray 34 (0, 0))]) [(g.2.2.2), mone g29 (.cells [Value.slice (g.2.1) ((g.1).length) ((g.2.2.1))].toArray 34 (0, 0))])) ([], none, 0, mnil) ⟨by exact ⟨rfl, by omega⟩, (OwnL.nil TOp mnil mnil), hg37⟩ (fun _ _ => f31_0) rfl rfl rfl (fun _ _ _ h => by obtain ⟨_, _, _, _, _, _, _, rfl⟩ := h; rfl) (fun args => [(13, args.getD 0 undef), (14, args.getD 1 undef), (0, Value.slice A0 (d0.length) (c0)), (1, Value.slice A1 (d1.length) (c1)), (2, Value.slice A2 (d2.length) (c2)), (7, Value.pointer (some ⟨s5_0, 0, none⟩)), (8, Value.int .i64 (0)), (9, Value.pointer (some ⟨s6_0, 0, none⟩)), (10, Value.int .i64 (((i : Nat) : Int))), (12, Value.pointer (some ⟨g29, 0, none⟩)), (22, Value.bool false), (30, Value.bool (decide (40 < ((d2.length : Nat) : Int)))), (45, Value.bool false), (49, Value.bool (decide (((i : Nat) : Int) < ((d0.length : Nat) : Int))))]) ?_ ?_ ?_ ?_
            · intro w1_ lr_ args_ Ω_ hl_
              obtain ⟨y0_, y1_, rfl⟩ : ∃ y0_ y1_, args_ = [y0_, y1_] := (match args_, hl_ with | [y0_, y1_], _ => ⟨y0_, y1_, rfl⟩)
              refine VX.rs ?_
              refine VO.as ?_
              refine VO.nil ?_
              refine VX.reg ?_
              refine VO.as ?_
              refine VO.nil ?_
              exact ⟨rfl, rfl, ⟨rfl, rfl, rfl, rfl, rfl, rfl, rfl, rfl, rfl, rfl, rfl, rfl, rfl, rfl, trivial⟩, rfl⟩
            · -- FFTFFB
              rintro w1_ lr_ Dr_ at_ ⟨out, out_A, out_c, out_m⟩ args_ mr_ ml_ mo_ ⟨ho, h_out, hSep_⟩ hE_
              replace ho : out = ((tL t).filter (·.1)).take at_.toNat ∧ 0 ≤ at_ := ho
              replace h_out : OwnL TOp out_m mnil (.slice out_A out.length out_c) out := h_out
              replace hSep_ : Seps (muns [out_m, mone g29 (.cells [Value.slice out_A (out.length) (out_c)].toArray 34 (0, 0))]) [out_m, mone g29 (.cells [Value.slice out_A (out.length) (out_c)].toArray 34 (0, 0))] := hSep_
              obtain ⟨hE0_, hE1_, hE2_, x_, hxa_, hxl1_, hxl2_, rfl⟩ := hE_
              simp only [maxLen] at hxl1_ hxl2_
              refine VX.parts 138 [136, 130] rfl hSep_ ?_
              show VX _ _ _ _ _ _ _ [(13, str (x_.2.1)), (14, str (x_.2.2)), (0, Value.slice A0 (d0.length) (c0)), (1, Value.slice A1 (d1.length) (c1)), (2, Value.slice A2 (d2.length) (c2)), (7, Value.pointer (some ⟨s5_0, 0, none⟩)), (8, Value.int .i64 (0)), (9, Value.pointer (some ⟨s6_0, 0, none⟩)), (10, Value.int .i64 (((i : Nat) : Int))), (12, Value.pointer (some ⟨g29, 0, none⟩)), (22, Value.bool false), (30, Value.bool (decide (40 < ((d2.length : Nat) : Int)))), (45, Value.bool false), (49, Value.bool (decide (((i : Nat) : Int) < ((d0.length : Nat) : Int))))] [(136, out_m), (130, mone g29 (.cells [Value.slice out_A (out.length) (out_c)].toArray 34 (0, 0))), (141, mr_), (142, mo_), (140, ml_), (139, mone Dr_ (.deferred (some []))), (133, p31_1), (105, w_m), (0, wm W)]
              have l_out : out.length ≤ out_c := by obtain ⟨_, _, he, hl, _⟩ := h_out.slice; simp only [Value.slice.injEq] at he; omega
              have k_out : out_c ≤ 9223372036854775807 := by obtain ⟨_, _, he, _, hl⟩ := h_out.slice; simp only [Value.slice.injEq, maxLen] at he hl; omega
              have hlo : out.length ≤ ((tL t).filter (·.1)).length := by rw [ho.1, List.length_take]; omega
              refine VX.block ?_
              refine VX.reg ?_
              refine VO.y rfl (.ld1 130 rfl tk34 rfl (cellsAt_one rfl rfl)) ?_
              refine VO.mv ?_
              refine VO.mv ?_
              refine VO.y rfl (.bst (cs := [Value.bool true, str (x_.2.1), str (x_.2.2)]) rfl tst64 tz64 rfl) ?_
              refine VO.bsl (cs := [Value.bool true, str (x_.2.1), str (x_.2.2)]) 144 rfl rfl tsl34 tz64 rfl rfl (fun g43 => ?_)
              obtain ⟨mo45, cs45, hM45, hA45, hC45⟩ := h_out
              refine VO.app 136 rfl rfl rfl tsl34 tz64 rfl rfl hM45 hA45 (.row 144 _ _ _ 1 1 _ _ Tryz.underlying34 rfl (cellsAt_one rfl rfl)) (by simp [Value.oneCell']) bdm bd (by decide) (fun v45 m45 hN45 => ?_)
              have ho45 : OwnL TOp m45 mnil v45 (out ++ [(true, x_.2)]) := OwnL.one hC45 hN45 (mk_Op (m := _) true x_.2.1 x_.2.2 bdm bdm)
              obtain ⟨A45, c45, rfl, l45, k45⟩ := ho45.slice
              simp only [maxLen] at k45
              refine VO.store (k := 1) (c' := [Value.slice A45 ((out ++ [(true, x_.2)]).length) (c45)]) 130 rfl rfl (.inr ⟨tk34, rfl⟩) rfl rfl rfl rfl rfl ?_
              refine VO.k14 0 1 2 7 8 9 10 12 13 14 22 30 45 49 ?_
              refine outBN ?_
              exact ⟨rfl, fun W_ hW_ => ⟨⟨out ++ [(true, x_.2)], A45, c45, m45⟩, (hW_.gather (ids := [136, 130]) 138 rfl).1.sub [142, 140, 138, 139, 133, 105, 0], .inl ⟨rfl, by exact live_in ho hxa_, ho45, (hW_.gather (ids := [136, 130]) 138 rfl).2⟩⟩⟩
            · -- FFTFFD
              rintro Dr_ at_ ⟨out, out_A, out_c, out_m⟩ ⟨ho, h_out, hSep_⟩ hDn_
              replace ho : out = ((tL t).filter (·.1)).take at_.toNat ∧ 0 ≤ at_ := ho
              replace h_out : OwnL TOp out_m mnil (.slice out_A out.length out_c) out := h_out
              replace hSep_ : Seps (muns [out_m, mone g29 (.cells [Value.slice out_A (out.length) (out_c)].toArray 34 (0, 0))]) [out_m, mone g29 (.cells [Value.slice out_A (out.length) (out_c)].toArray 34 (0, 0))] := hSep_
              have l_out : out.length ≤ out_c := by obtain ⟨_, _, he, hl, _⟩ := h_out.slice; simp only [Value.slice.injEq] at he; omega
              have k_out : out_c ≤ 9223372036854775807 := by obtain ⟨_, _, he, _, hl⟩ := h_out.slice; simp only [Value.slice.injEq, maxLen] at he hl; omega
              refine outBN ?_
              refine outN ?_
              refine VX.parts 138 [136, 130] rfl hSep_ ?_
              show VX _ _ _ _ _ _ _ [(0, Value.slice A0 (d0.length) (c0)), (1, Value.slice A1 (d1.length) (c1)), (2, Value.slice A2 (d2.length) (c2)), (7, Value.pointer (some ⟨s5_0, 0, none⟩)), (8, Value.int .i64 (0)), (9, Value.pointer (some ⟨s6_0, 0, none⟩)), (10, Value.int .i64 (((i : Nat) : Int))), (12, Value.pointer (some ⟨g29, 0, none⟩)), (22, Value.bool false), (30, Value.bool (decide (40 < ((d2.length : Nat) : Int)))), (45, Value.bool false), (49, Value.bool (decide (((i : Nat) : Int) < ((d0.length : Nat) : Int)))), (99, Value.func (.func 59) #[] s31_0.toArray)] [(136, out_m), (130, mone g29 (.cells [Value.slice out_A (out.length) (out_c)].toArray 34 (0, 0))), (139, mone Dr_ (.deferred (some []))), (133, p31_1), (105, w_m), (0, wm W)]
              refine VX.seq ?_
              refine VX.rs ?_
              have how := live_done ho hDn_
              have hol : out.length ≤ t.length := by rw [how]; have h1_ := List.length_filter_le (fun o : DOp => o.1) (tL t); have h2_ := tL_len (d := t); omega
              refine VO.as ?_
              refine VO.k14 0 1 2 7 8 9 10 12 15 22 30 45 49 99 ?_
              refine VX.block ?_
              refine VX.loop (G := Nat × Mem × Mem) (fun g => [(15, Value.int .i64 ((((g.1) : Nat) : Int))), (0, Value.slice A0 (d0.length) (c0)), (1, Value.slice A1 (d1.length) (c1)), (2, Value.slice A2 (d2.length) (c2)), (7, Value.pointer (some ⟨s5_0, 0, none⟩)), (8, Value.int .i64 (0)), (9, Value.pointer (some ⟨s6_0, 0, none⟩)), (10, Value.int .i64 (((i : Nat) : Int))), (12, Value.pointer (some ⟨g29, 0, none⟩)), (22, Value.bool false), (30, Value.bool (decide (40 < ((d2.length : Nat) : Int)))), (45, Value.bool false), (49, Value.bool (decide (((i : Nat) : Int) < ((d0.length : Nat) : Int)))), (99, Value.func (.func 59) #[] s31_0.toArray)]) (fun g => [(136, out_m), (130, mone g29 (.cells [Value.slice out_A (out.length) (out_c)].toArray 34 (0, 0))), (139, mone Dr_ (.deferred (some []))), (133, (g.2.2)), (105, (g.2.1)), (0, wm W)]) (fun g => ((g.1) ≤ d2.length) ∧ (Ow (.ptr TstoreStore) (g.2.1) [.pointer (some ⟨s5_0, 0, none⟩)] (s5_0, ((w_0g, w_0), (gu2_5, ((gd2_5, w_1_0), w_1_1, w_1_2)), w_2))) ∧ (Ow (.ptr TtableTable) (g.2.2) [.pointer (some ⟨s6_0, 0, none⟩)] (s6_0, t))) (fun g => d2.length - (g.1)) (0, w_m, p31_1) (⟨by (dsimp only; omega), h_w, w31_0⟩) ⟨⟨rfl, rfl, rfl, rfl, rfl, rfl, rfl, rfl, rfl, rfl, rfl, rfl, rfl, rfl, trivial⟩, fun _ h => h.sub [136, 130, 139, 133, 105, 0]⟩ ?_
              rintro ⟨k, s2_m, t2_m⟩ ⟨hk, h_s2, h_t2⟩
              replace hk : k ≤ d2.length := hk
              replace h_s2 : Ow (.ptr TstoreStore) s2_m [.pointer (some ⟨s5_0, 0, none⟩)] (s5_0, ((w_0g, w_0), (gu2_5, ((gd2_5, w_1_0), w_1_1, w_1_2)), w_2)) := h_s2
              replace h_t2 : Ow (.ptr TtableTable) t2_m [.pointer (some ⟨s6_0, 0, none⟩)] (s6_0, t) := h_t2
              show VX _ _ _ _ _ _ _ [(15, Value.int .i64 (((k : Nat) : Int))), (0, Value.slice A0 (d0.length) (c0)), (1, Value.slice A1 (d1.length) (c1)), (2, Value.slice A2 (d2.length) (c2)), (7, Value.pointer (some ⟨s5_0, 0, none⟩)), (8, Value.int .i64 (0)), (9, Value.pointer (some ⟨s6_0, 0, none⟩)), (10, Value.int .i64 (((i : Nat) : Int))), (12, Value.pointer (some ⟨g29, 0, none⟩)), (22, Value.bool false), (30, Value.bool (decide (40 < ((d2.length : Nat) : Int)))), (45, Value.bool false), (49, Value.bool (decide (((i : Nat) : Int) < ((d0.length : Nat) : Int)))), (99, Value.func (.func 59) #[] s31_0.toArray)] [(136, out_m), (130, mone g29 (.cells [Value.slice out_A (out.length) (out_c)].toArray 34 (0, 0))), (139, mone Dr_ (.deferred (some []))), (133, t2_m), (105, s2_m), (0, wm W)]
              refine VX.seq ?_
              refine VX.rs ?_
              refine VO.mv ?_
              refine VO.mv ?_
              refine VO.y rfl (.lenS rfl tsl57) ?_
              refine VO.y rfl (.lss rfl rfl) ?_
              refine VO.kp [136, 130, 139, 133, 105, 0] [(136, out_m), (130, mone g29 (.cells [Value.slice out_A (out.length) (out_c)].toArray 34 (0, 0))), (139, mone Dr_ (.deferred (some []))), (133, t2_m), (105, s2_m), (0, wm W)] ?_
              refine VO.k15 0 1 2 7 8 9 10 12 15 22 30 45 49 99 111 ?_
              refine VX.cond rfl (fun hc46 => ?_) (fun hc46 => ?_)
              · -- FFTFFDT
                refine VX.skip ?_
                refine outN ?_
                refine VX.seq ?_
                refine VX.block ?_
                refine VX.rs ?_
                refine VO.mv ?_
                refine VO.mv ?_
                refine VO.mv ?_
                obtain ⟨x47, hx47⟩ : ∃ z_, (d2)[k]? = some z_ := ⟨_, List.getElem?_eq_getElem bd⟩
                obtain ⟨gg47, oo47, ec47, ea47, hce47, hre47⟩ := h2.elem hx47
                cases ea47
                obtain ⟨rfl, q47⟩ := hre47
                have q47' := q47; simp only [maxLen] at q47'
                refine VO.y rfl (.ixI k rfl rfl tsl57 rfl bd) ?_
                refine VO.y rfl (.ld1 0 rfl tk9 rfl hce47) ?_
                refine VO.call 105 rfl fnOk13 rfl rfl (fun W hW => sGet_ok W (hW.at (i := 105) rfl) h_s2 x47 bdm (by first | assumption | rfl) (by assumption)) (fun v48 m48 hv48 => ?_)
                try dsimp only at hv48
                obtain ⟨rfl, w48_0⟩ := hv48
                refine VO.mv ?_
                refine VO.y rfl (.ext rfl rfl) ?_
                refine VO.y rfl (.ext rfl rfl) ?_
                refine VO.as ?_
                refine VO.as ?_
                refine VO.k17 0 1 2 7 8 9 10 12 15 16 17 22 30 45 49 99 111 ?_
                refine VX.rs ?_
                refine VO.mv ?_
                refine VO.mv ?_
                refine VO.mv ?_
                refine VO.y rfl (.ixI k rfl rfl tsl57 rfl bd) ?_
                refine VO.y rfl (.ld1 0 rfl tk9 rfl hce47) ?_
                refine VO.call 133 rfl fnOk26 rfl rfl (fun W hW => tGet_ok W (hW.at (i := 133) rfl) h_t2 x47 bdm) (fun v50 m50 hv50 => ?_)
                obtain ⟨rfl, w50_0⟩ := hv50
                refine VO.mv ?_
                refine VO.y rfl (.ext rfl rfl) ?_
                refine VO.y rfl (.ext rfl rfl) ?_
                refine VO.y rfl (.ext rfl rfl) ?_
                refine VO.as ?_
                refine VO.as ?_
                refine VO.as ?_
                refine VO.k19 0 1 2 7 8 9 10 12 15 16 17 18 20 22 30 45 49 99 111 ?_
                refine VX.rs ?_
                refine VO.mv ?_
                refine VO.mv ?_
                refine VO.y rfl (.sneq rfl rfl) ?_
                refine VO.mv ?_
                refine VO.dec (t := 136) rfl (fun hc51 => ?_) (fun hc51 => ?_)
                · -- FFTFFDTT
                  first | exact absurd rfl hc51 | exact absurd hc51 (by omega) | exact absurd hA.1 hc51 | exact absurd hF2.e hc51 | (rcases (hB _).1 with h_ | h_ <;> contradiction) | exact absurd (sf_get hF _).1 hc51 | exact absurd (by rw [(sf_get hF _).2]) hc51 | (exfalso; omega)
                · -- FFTFFDTF
                  refine VO.gy rfl ⟨_, rfl, rfl⟩ (.mv rfl) ?_
                  refine VO.gy rfl ⟨_, rfl, rfl⟩ (.mv rfl) ?_
                  refine VO.gy rfl ⟨_, rfl, rfl⟩ (.bneq rfl rfl Tryz.underlying4) ?_
                  refine VO.y rfl (.pF rfl rfl) ?_
                  refine VO.kp [133, 105, 136, 130, 139, 0] [(133, m50), (105, m48), (136, out_m), (130, mone g29 (.cells [Value.slice out_A (out.length) (out_c)].toArray 34 (0, 0))), (139, mone Dr_ (.deferred (some []))), (0, wm W)] ?_
                  refine VO.k20 0 1 2 7 8 9 10 12 15 16 17 18 20 22 30 45 49 99 111 140 ?_
                  refine VX.cond rfl (fun hc52 => ?_) (fun hc52 => ?_)
                  · -- FFTFFDTFT
                    first | exact absurd rfl hc52 | exact absurd hc52 (by omega) | exact absurd hA.1 hc52 | exact absurd hF2.e hc52 | (rcases (hB _).1 with h_ | h_ <;> contradiction) | exact absurd (sf_get hF _).1 hc52 | exact absurd (by rw [(sf_get hF _).2]) hc52 | (exfalso; omega)
                  · -- FFTFFDTFF
                    refine VX.skip ?_
                    refine outBN ?_
                    refine outN ?_
                    refine VX.reg ?_
                    refine VO.mv ?_
                    refine VO.y rfl (.add (c := ((k + 1 : Nat) : Int)) rfl rfl (by omega) ⟨bd, bd⟩) ?_
                    refine VO.as ?_
                    refine VO.k20 0 1 2 7 8 9 10 12 15 16 17 18 20 22 30 45 49 99 111 140 ?_
                    exact outN ⟨rfl, ⟨k + 1, m48, m50⟩, ⟨by (dsimp only; omega), w48_0, w50_0⟩, by (dsimp only; omega), ⟨⟨rfl, rfl, rfl, rfl, rfl, rfl, rfl, rfl, rfl, rfl, rfl, rfl, rfl, rfl, trivial⟩, fun _ h => Inv.sub h [136, 130, 139, 133, 105, 0]⟩⟩
              · -- FFTFFDF
                refine VX.exit ?_
                refine outE ?_
                refine outE ?_
                refine outBB ?_
                refine outN ?_
                refine VX.seq ?_
                refine VX.regD _ 6 [(0, true), (1, true), (2, true), (3, true), (5, true), (4, false)] follows (by kernel_rfl) (fun _ h => h.sub [136, 130, 139, 133, 0]) ?_
                refine VD.y rfl rfl (.inl rfl) (.mv rfl) ?_
                refine VD.y rfl rfl (.inl rfl) (.ld1 130 rfl tk34 rfl (cellsAt_one rfl rfl)) ?_
                refine VD.y rfl rfl (.inl rfl) (.lenS rfl tsl34) ?_
                refine VD.y rfl rfl (.inl rfl) (.add (c := ((out.length + 1 : Nat) : Int)) rfl rfl (by omega) ⟨bd, bd⟩) ?_
                refine VD.y rfl rfl (.inl rfl) (.ld1 130 rfl tk34 rfl (cellsAt_one rfl rfl)) ?_
                refine VD.call 105 rfl rfl (.inl rfl) fnOk17 rfl rfl (fun _ _ h => h.sub [136, 130, 139, 133, 0]) (fun W hW => all14_ok W (hW.at (i := 105) rfl) h_s2 ((out.length + 1 : Nat) : Int) bdk (by first | assumption | rfl) (by assumption) (by assumption) bd bd) (fun v53 m53 hv53 => ?_)
                try dsimp only at hv53
                obtain ⟨s53_0, p53_0, p53_1, rfl, hS53, f53_0, w53_0⟩ := hv53
                refine VD.inv _ (fun _ h => h.parts (i := 105) rfl hS53 [154, 155]) ?_
                have hfa56 := allT_len ((sList w_1_2 w_2).filter (·.1)) ((out.length + 1 : Nat) : Int)
                have hfa57 := sList_len (l := w_1_2) (r := w_2)
                obtain ⟨A53_0, c53_0, eq53_0, l53_0, k53_0⟩ := f53_0.slice
                subst eq53_0
                simp only [maxLen] at k53_0
                refine VD.nil rfl ?_ rfl
                refine VO.callN 158 rfl fnOk22 rfl (fun W hW => SameOps_ok W (OwnL.rd (Ow.ownl f53_0 rfl mnil) (hW.at (i := 154) rfl) (mle_nil _)) (OwnL.rd h_out (hW.at (i := 136) rfl) (mle_nil _))) (fun v58 m58 hv58 => ?_)
                subst hv58
                refine VO.as ?_
                refine VO.k16 0 1 2 6 7 8 9 10 12 15 22 30 45 49 99 111 ?_
                refine outN ?_
                refine VX.ret ?_
                refine ⟨139, rfl, ?_⟩
                refine ⟨_, _, res_run (rs := [.tmp 6]) rfl (.tmp rfl .nil), fun W_ hI => out_of (l := []) hI [] rfl rfl (mle_refl _) (fun hS_ => ?_)⟩
                dsimp only [packV]
                all_goals (first | rfl | (first | rfl | exact congrArg Value.bool (decide_eq_true (by rw [how]; exact sf_all hF (ow_nodup h_t)))))
            · -- FFTFFX
              rintro Dr_ _ ⟨out, out_A, out_c, out_m⟩ ⟨rfl, hs, h_out, hSep_⟩ _
              exact hs.elim
      · -- FFF
        first | exact absurd rfl hsp4 | exact absurd hsp4 (by omega) | exact absurd hA.1 hsp4 | exact absurd hF2.e hsp4 | (rcases (hB _).1 with h_ | h_ <;> contradiction) | exact absurd (sf_get hF _).1 hsp4 | exact absurd (by rw [(sf_get hF _).2]) hsp4 | (exfalso; omega)
section
open Go.ChangeShapes Go.WideShapes Go.ChangeAt Go.RowKit
theorem storeFold_ok0 : tyOk Tryz.prog 60 (.sl (.sl TOp)) (.inl 49) = true := by kernel_rfl
theorem storeFold_ok1 : tyOk Tryz.prog 60 (.sl (.int .i64)) (.inl 50) = true := by kernel_rfl
theorem storeFold_ok2 : tyOk Tryz.prog 60 (.sl .str) (.inl 57) = true := by kernel_rfl
set_option maxRecDepth 100000 in
theorem storeFold_lifted (os : Os) (started : os.Started) (H : Type) (enc : TypeId × Value → H) :
    ReturnsInHanded {} Tryz.checked os 6 .any (Rows.storeFoldSpec.pre6 enc Tryz.prog Tryz.f6 Rows.storeFoldRow.domain false) (Rows.storeFoldSpec.post enc Tryz.prog Tryz.f6 false true false false) := by
  refine returnsInHanded_of_change (C := Tryz.checked) (by kernel_rfl) started (by kernel_rfl) Tryz.func6
    (ChangeSpec.witness6 (enc := enc) (C := Tryz.checked) false ⟨#[], #[.slice none 0 0, .slice none 0 0, .slice none 0 0], []⟩ 8 (by kernel_rfl) (by kernel_rfl) (by kernel_rfl) (by kernel_rfl)) ?_
  intro W base args ds gs before hval0 hW hcnd _
  have hval : ∀ (j : Nat) t v, Tryz.f6.params[j]? = some t → args[j]? = some v → Value.okWide Tryz.prog W .any base t v := hval0
  have hW' := hW
  obtain ⟨p, q, hA0, hV, rfl, hfz, hnd⟩ := hW
  have hA : DataW.TrodAll enc Tryz.prog W 0 (fun _ => true) true Tryz.f6.params.toList args.toList ds p := hA0
  rw [Tryz.params6] at hA hval
  clear hA0 hval0
  obtain ⟨args⟩ := args
  obtain ⟨v0, r0, d0, e0, p0, q0, ha0, rfl, rfl, h0, hA0⟩ := trodAll_cons hA
  simp only at ha0; subst ha0
  obtain ⟨v1, r1, d1, e1, p1, q1, ha1, rfl, rfl, h1, hA1⟩ := trodAll_cons hA0
  subst ha1
  obtain ⟨v2, r2, d2, e2, p2, q2, ha2, rfl, rfl, h2, hA2⟩ := trodAll_cons hA1
  subst ha2
  obtain ⟨rfl, rfl, rfl⟩ := trodAll_nil hA2
  obtain ⟨x0, hx0⟩ := arg_sl 60 storeFold_ok0 Tryz.underlying49 (hval 0 49 v0 rfl rfl) h0
  obtain ⟨x1, hx1⟩ := arg_sl 60 storeFold_ok1 Tryz.underlying50 (hval 1 50 v1 rfl rfl) h1
  obtain ⟨x2, hx2⟩ := arg_sl 60 storeFold_ok2 Tryz.underlying57 (hval 2 57 v2 rfl rfl) h2
  refine (calls_of (storeFold_ok W hx0 hx1 hx2)).mono fun e W' ⟨he, hg⟩ => ?_
  subst he
  exact ⟨_, rfl, law_post hW' hg laidOut_ok (by kernel_rfl) rfl Tryz.underlying4 rfl rfl rfl rfl⟩
theorem storeFold_joined : joinedFacts Tryz.prog 6 Tryz.f6 Rows.storeFoldSpec Rows.storeFoldRow = true := by
  unfold joinedFacts
  rw [laidOut_ok, mapsRowed_ok, stopsHeard_ok, mayEnter_ok, lifts_ok, make_ok]
  kernel_rfl
theorem storeFold_proved : Rows.StoreFoldSaid :=
  OpenClaim.holds_of_wide 6 Tryz.f6 rfl rfl rfl rfl rfl rfl rfl ⟨rfl, rfl, rfl, rfl, rfl⟩ rfl rfl rfl rfl rfl (by kernel_rfl) Tryz.func6 storeFold_joined
    (of_decide_eq_true (by kernel_rfl)) (by unfold Func.isWrapper; first | (rw [if_pos (by decide +kernel)]; kernel_rfl) | (rw [if_neg (by decide +kernel)]; exact ⟨rfl, rfl⟩))
    (fun os started H enc _ => storeFold_lifted os started H enc)
#print axioms storeFold_proved
end
end Go.Proofs.YtonbpfncmlijnaaGreat
