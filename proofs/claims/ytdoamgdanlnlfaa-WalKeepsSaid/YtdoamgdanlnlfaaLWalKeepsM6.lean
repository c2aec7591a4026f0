/- Part 6 of the proof of LWalKeeps: what it needs of the library, the walks and the plain laws. Conditions: those named in each theorem. -/
import Derived.Test.YtdoamgdanlnlfaaLWalKeepsM5
namespace Go.Proofs.Ytdoamgdanlnlfaa
section
set_option linter.unusedVariables false
set_option linter.unusedSimpArgs false
set_option maxRecDepth 4000
theorem fnOk21 : fnOk Try.prog 21 = true := by kernel_rfl
theorem fnOk22 : fnOk Try.prog 22 = true := by kernel_rfl
theorem fnOk23 : fnOk Try.prog 23 = true := by kernel_rfl
theorem fnOk30 : fnOk Try.prog 30 = true := by kernel_rfl
theorem tk50 : tk Try.prog 50 = some (some 6) := by kernel_rfl
theorem fin1_walKeeps_ok {P : Prop} (h : P := by first | omega | (simp only [List.length_append, List.length_nil, List.length_cons, List.length_take, List.length_drop] at *; omega) | (have h_ := all_rng hk.2.1 ‹all[_]? = some _›; omega) | (have h_ := hsm.1 _ (List.mem_of_getElem? ‹d0[_]? = some _›); omega)) : P := h
set_option maxHeartbeats 8000000 in
theorem walKeeps_ok (W : World) {v0 : Value} {d0 : List Dlaw12Act} (h0 : Rd (.sl Tlaw12Act) (wm W) [v0] d0) (d1 : Int) (h1 : inK .i64 d1) (d2 : Int) (h2 : inK .i64 d2) (d3 : Int) (h3 : inK .i64 d3) : CallR Try.prog 5 [v0, .int .i64 d1, .int .i64 d2, .int .i64 d3] W (mnil) (fun v m' => v = .bool true) := by
  obtain ⟨A0, c0, rfl, l0, k0⟩ := h0.slice
  simp only [maxLen] at k0
  have h1' := h1; simp only [inK] at h1'
  have h2' := h2; simp only [inK] at h2'
  have h3' := h3; simp only [inK] at h3'
  refine CallR.ofA (n := 152) Try.func5 rfl rfl rfl ?_
  refine VC.rs ?_
  refine VO.as ?_
  refine VO.k5 0 1 2 3 8 ?_
  refine VC.seq ?_
  refine VC.rs ?_
  refine VO.callN 101 rfl fnOk8 rfl (fun W hW => lives12_ok W ) (fun v1 m1 hv1 => ?_)
  subst hv1
  refine VO.y rfl (.not rfl) ?_
  refine VO.k6 0 1 2 3 8 22 ?_
  refine VC.condF rfl ?_
  refine VC.skip ?_
  refine outN ?_
  refine VC.seq ?_
  refine VC.rs ?_
  refine VO.mv ?_
  refine VO.callN 102 rfl fnOk21 rfl (fun W hW => small12_ok W (Rd.mono h0 (hW.at (i := 0) rfl))) (fun v2 m2 hv2 => ?_)
  subst hv2
  refine VO.y rfl (.notD rfl) ?_
  refine VO.mv ?_
  refine VO.dec (t := 26) rfl (fun hc3 => ?_) (fun hc3 => ?_)
  · -- T
    refine VO.gN ?_
    refine VO.gN ?_
    refine VO.y rfl (.pT rfl rfl) ?_
    refine VO.mv ?_
    refine VO.gN ?_
    refine VO.gN ?_
    refine VO.y rfl (.pT rfl rfl) ?_
    refine VO.kp [0] [(0, wm W)] ?_
    refine VO.k7 0 1 2 3 8 22 33 ?_
    refine VC.condT rfl ?_
    refine VC.rs ?_
    refine VO.as ?_
    refine VO.k7 0 1 2 3 8 22 33 ?_
    refine VC.ret ?_
    refine outR ?_
    refine ⟨_, _, res_run (rs := [.tmp 8]) rfl (.tmp rfl .nil), fun W_ hI => out_of (l := []) hI [] rfl rfl (mle_refl _) (fun hS_ => ?_)⟩
    dsimp only [packV]
    all_goals (first | rfl | (first | exact congrArg Value.bool (decide_eq_true hkf.2.2.2) | (simp [*]; done)))
  · -- F
    refine VO.gy rfl ⟨_, rfl, rfl⟩ (.mv rfl) ?_
    refine VO.gy rfl ⟨_, rfl, rfl⟩ (.lss rfl rfl) ?_
    refine VO.y rfl (.pF rfl rfl) ?_
    refine VO.mv ?_
    refine VO.dec (t := 30) rfl (fun hc4 => ?_) (fun hc4 => ?_)
    · -- FT
      refine VO.gN ?_
      refine VO.gN ?_
      refine VO.y rfl (.pT rfl rfl) ?_
      refine VO.kp [0] [(0, wm W)] ?_
      refine VO.k7 0 1 2 3 8 22 33 ?_
      refine VC.condT rfl ?_
      refine VC.rs ?_
      refine VO.as ?_
      refine VO.k7 0 1 2 3 8 22 33 ?_
      refine VC.ret ?_
      refine outR ?_
      refine ⟨_, _, res_run (rs := [.tmp 8]) rfl (.tmp rfl .nil), fun W_ hI => out_of (l := []) hI [] rfl rfl (mle_refl _) (fun hS_ => ?_)⟩
      dsimp only [packV]
      all_goals (first | rfl | (first | exact congrArg Value.bool (decide_eq_true hkf.2.2.2) | (simp [*]; done)))
    · -- FF
      refine VO.gy rfl ⟨_, rfl, rfl⟩ (.mv rfl) ?_
      refine VO.gy rfl ⟨_, rfl, rfl⟩ (.lss rfl rfl) ?_
      refine VO.y rfl (.pF rfl rfl) ?_
      refine VO.kp [0] [(0, wm W)] ?_
      refine VO.k7 0 1 2 3 8 22 33 ?_
      refine VC.cond rfl (fun hc5 => ?_) (fun hc5 => ?_)
      · -- FFT
        refine VC.rs ?_
        refine VO.as ?_
        refine VO.k7 0 1 2 3 8 22 33 ?_
        refine VC.ret ?_
        refine outR ?_
        refine ⟨_, _, res_run (rs := [.tmp 8]) rfl (.tmp rfl .nil), fun W_ hI => out_of (l := []) hI [] rfl rfl (mle_refl _) (fun hS_ => ?_)⟩
        dsimp only [packV]
        all_goals (first | rfl | (first | exact congrArg Value.bool (decide_eq_true hkf.2.2.2) | (simp [*]; done)))
      · -- FFF
        refine VC.skip ?_
        refine outN ?_
        refine VC.rs ?_
        refine VO.callN 106 rfl fnOk16 rfl (fun W hW => dNew_ok W ) (fun v6 m6 hv6 => ?_)
        obtain ⟨s6_0, rfl, f6_0⟩ := hv6
        have hfa7 := okD_new
        have hfa8 := (show wD newD = 0 from rfl)
        refine VO.as ?_
        refine VO.k8 0 1 2 3 8 9 22 33 ?_
        refine VC.rs ?_
        refine VO.mv ?_
        by_cases hsp9 : (wOpen newD).2 = 0
        · -- FFFT
          refine VO.call 106 rfl fnOk15 rfl rfl (fun W hW => wOpenY_ok W (hW.at (i := 106) rfl) f6_0 (by assumption) (by exact fin1_walKeeps_ok) (by assumption)) (fun v10 m10 hv10 => ?_)
          obtain ⟨s10_0, rfl, f10_0⟩ := hv10
          have hfa11 := (open_ok (show okD newD by assumption))
          have hfa12 := (open_w (show okD newD by assumption))
          have hfa13 := (log_bounds (dRead newD 0).1)
          have hfa14 := (okL_log newD)
          refine VO.mv ?_
          refine VO.y rfl (.ext rfl rfl) ?_
          refine VO.y rfl (.ext rfl rfl) ?_
          refine VO.as ?_
          refine VO.as ?_
          refine VO.k10 0 1 2 3 8 9 10 11 22 33 ?_
          refine VC.seq ?_
          refine VC.rs ?_
          refine VO.mv ?_
          refine VO.y rfl (.neq rfl rfl) ?_
          refine VO.mv ?_
          refine VO.dec (t := 42) rfl (fun hc15 => ?_) (fun hc15 => ?_)
          · -- FFFTT
            first | exact absurd rfl hc15 | exact absurd (by decide) hc15 | (refine absurd ?_ hc15; rw [lv0]; done) | (refine absurd ?_ hc15; rw [lv0]; exact (kl_fuse kl_new (by omega)).1) | exact absurd hk0.1 hc15 | exact absurd (kp_pull hkp (by assumption)).1 hc15 | exact absurd (kp_start (kp_pull hkp (by assumption)).2.1 (kp_pull hkp (by assumption)).2.2 (by omega) (by omega)).1 hc15 | exact absurd (kp_start hkp (kp_off hkp (by assumption)) (by omega) (by omega)).1 hc15 | exact absurd hko.1 hc15 | exact absurd hko.2.2.2.1 hc15 | exact absurd hkf.2.1 hc15 | exact absurd hkf.2.2.1 hc15 | (exfalso; omega)
          · -- FFFTF
            refine VO.gy rfl ⟨_, rfl, rfl⟩ (.mv rfl) ?_
            refine VO.gy rfl ⟨_, rfl, rfl⟩ (.pnil rfl rfl Try.underlying33 rfl) ?_
            refine VO.y rfl (.pF rfl rfl) ?_
            refine VO.kp [106, 0] [(106, m10), (0, wm W)] ?_
            refine VO.k11 0 1 2 3 8 9 10 11 22 33 45 ?_
            refine VC.condF rfl ?_
            refine VC.skip ?_
            refine outN ?_
            refine VC.seqJ (G := DdiskDisk × Bool × (List DCommit) × (List Int) × Mem) (fun g => [(0, Value.slice A0 (d0.length) (c0)), (2, Value.int .i64 (d2)), (3, Value.int .i64 (d3)), (8, Value.bool false), (9, Value.pointer (some ⟨s6_0, 0, none⟩)), (10, Value.pointer (some ⟨s10_0, 0, none⟩)), (11, Value.int .i64 (0))]) (fun g => [(125, (g.2.2.2.2)), (0, wm W)]) (fun g => (Kl (g.1) [] []) ∧ ((g.2.1) = false) ∧ ((g.2.2.1) = []) ∧ ((g.2.2.2.1) = []) ∧ (wD (g.1) ≤ 10) ∧ (Ow (.ptr TwalWal) (g.2.2.2.2) [.pointer (some ⟨s10_0, 0, none⟩)] (s10_0, ((s6_0, (g.1)), (g.2.1), (g.2.2.1), (g.2.2.2.1))))) ?_ ?_
            · -- FFFTFTFJ
              rintro ⟨f_0, f_1, f_2, f_3, f_m⟩ ⟨hk0, hb0, hc0, he0, hw0, h_f⟩
              replace hk0 : Kl f_0 [] [] := hk0
              replace hb0 : f_1 = false := hb0
              replace hc0 : f_2 = [] := hc0
              replace he0 : f_3 = [] := he0
              replace hw0 : wD f_0 ≤ 10 := hw0
              replace h_f : Ow (.ptr TwalWal) f_m [.pointer (some ⟨s10_0, 0, none⟩)] (s10_0, ((s6_0, f_0), f_1, f_2, f_3)) := h_f
              show VC _ _ _ _ _ [(0, Value.slice A0 (d0.length) (c0)), (2, Value.int .i64 (d2)), (3, Value.int .i64 (d3)), (8, Value.bool false), (9, Value.pointer (some ⟨s6_0, 0, none⟩)), (10, Value.pointer (some ⟨s10_0, 0, none⟩)), (11, Value.int .i64 (0))] [(125, f_m), (0, wm W)]
              refine VC.rs ?_
              refine VO.as ?_
              refine VO.as ?_
              refine VO.k9 0 2 3 8 9 10 11 12 13 ?_
              refine VC.seqJ (G := DdiskDisk × Bool × (List DCommit) × (List Int) × Mem × (List DCommit) × (Option Addr) × Nat × Mem × (List DCommit) × (Option Addr) × Nat × Mem) (fun g => [(12, Value.slice (g.2.2.2.2.2.2.1) ((g.2.2.2.2.2.1).length) ((g.2.2.2.2.2.2.2.1))), (13, Value.slice (g.2.2.2.2.2.2.2.2.2.2.1) ((g.2.2.2.2.2.2.2.2.2.1).length) ((g.2.2.2.2.2.2.2.2.2.2.2.1))), (2, Value.int .i64 (d2)), (3, Value.int .i64 (d3)), (8, Value.bool false), (9, Value.pointer (some ⟨s6_0, 0, none⟩)), (11, Value.int .i64 (0))]) (fun g => [(125, (g.2.2.2.2.1)), (128, (g.2.2.2.2.2.2.2.2.2.2.2.2)), (127, (g.2.2.2.2.2.2.2.2.1)), (0, wm W)]) (fun g => (Kp (g.1) (g.2.2.2.2.2.1) (g.2.2.2.2.2.2.2.2.2.1)) ∧ ((g.2.2.2.2.2.1).length ≤ 61) ∧ (wD (g.1) ≤ 1000000) ∧ (OwnL TCommit (g.2.2.2.2.2.2.2.2.1) (wm W) (.slice (g.2.2.2.2.2.2.1) (g.2.2.2.2.2.1).length (g.2.2.2.2.2.2.2.1)) (g.2.2.2.2.2.1)) ∧ (Ow (.sl TCommit) (g.2.2.2.2.2.2.2.2.2.2.2.2) [.slice (g.2.2.2.2.2.2.2.2.2.2.1) (g.2.2.2.2.2.2.2.2.2.1).length (g.2.2.2.2.2.2.2.2.2.2.2.1)] (g.2.2.2.2.2.2.2.2.2.1)) ∧ (Ow (.ptr TwalWal) (g.2.2.2.2.1) [.pointer (some ⟨s10_0, 0, none⟩)] (s10_0, ((s6_0, (g.1)), (g.2.1), (g.2.2.1), (g.2.2.2.1))))) ?_ ?_
              · -- FFFTFTFJTTTJ
                rintro ⟨v_0, v_1, v_2, v_3, v_m, al, al_A, al_c, al_m, su, su_A, su_c, su_m⟩ ⟨hkp, hal2, hw2, h_al, h_su, h_v⟩
                replace hkp : Kp v_0 al su := hkp
                replace hal2 : al.length ≤ 61 := hal2
                replace hw2 : wD v_0 ≤ 1000000 := hw2
                replace h_al : OwnL TCommit al_m (wm W) (.slice al_A al.length al_c) al := h_al
                replace h_su : Ow (.sl TCommit) su_m [.slice su_A su.length su_c] su := h_su
                replace h_v : Ow (.ptr TwalWal) v_m [.pointer (some ⟨s10_0, 0, none⟩)] (s10_0, ((s6_0, v_0), v_1, v_2, v_3)) := h_v
                show VC _ _ _ _ _ [(12, Value.slice al_A (al.length) (al_c)), (13, Value.slice su_A (su.length) (su_c)), (2, Value.int .i64 (d2)), (3, Value.int .i64 (d3)), (8, Value.bool false), (9, Value.pointer (some ⟨s6_0, 0, none⟩)), (11, Value.int .i64 (0))] [(125, v_m), (128, su_m), (127, al_m), (0, wm W)]
                have l_al : al.length ≤ al_c := by obtain ⟨_, _, he, hl, _⟩ := h_al.slice; simp only [Value.slice.injEq] at he; omega
                have k_al : al_c ≤ 9223372036854775807 := by obtain ⟨_, _, he, _, hl⟩ := h_al.slice; simp only [Value.slice.injEq, maxLen] at he hl; omega
                have l_su : su.length ≤ su_c := by obtain ⟨_, _, he, hl, _⟩ := h_su.slice; simp only [Value.slice.injEq] at he; omega
                have k_su : su_c ≤ 9223372036854775807 := by obtain ⟨_, _, he, _, hl⟩ := h_su.slice; simp only [Value.slice.injEq, maxLen] at he hl; omega
                have hok2 := kp_ok hkp
                refine VC.seq ?_
                refine VC.rs ?_
                refine VO.mv ?_
                obtain ⟨q46_E, q46_A2, q46_c2, q46_A3, q46_c3, q46_n0, q46_n2, q46_n3, _, q46_S, q46_0, q46_2, q46_3⟩ := openP_walWal (x0 := (s6_0, v_0)) (x1 := v_1) (x2 := v_2) (x3 := v_3) h_v
                dsimp only at q46_0
                have q46_r2 := q46_2.rm
                have q46_r3 := q46_3.rm
                refine VO.inv _ (fun _ h => h.parts (i := 125) rfl q46_S [150, 147, 148, 149]) ?_
                refine VO.call 147 rfl fnOk26 rfl rfl (fun W hW => dOn_ok W (hW.at (i := 147) rfl) q46_0) (fun v45 m45 hv45 => ?_)
                obtain ⟨rfl, w45_0⟩ := hv45
                refine VO.mv ?_
                refine VO.dec (t := 100) rfl (fun hc51 => ?_) (fun hc51 => ?_)
                · -- FFFTFTFJTTTJT
                  refine VO.gy rfl ⟨_, rfl, rfl⟩ (.mv rfl) ?_
                  refine VO.gcall 147 rfl ⟨_, rfl, rfl⟩ fnOk27 rfl rfl (fun W hW => dPull_ok W (hW.at (i := 147) rfl) w45_0 (by assumption)) (fun v52 m52 hv52 => ?_)
                  obtain ⟨rfl, w52_0⟩ := hv52
                  have hfa53 := (pull_ok (show okD v_0 by assumption))
                  have hfa54 := (pull_w v_0)
                  refine VO.gy rfl ⟨_, rfl, rfl⟩ (.neq rfl rfl) ?_
                  refine VO.y rfl (.pT rfl rfl) ?_
                  refine VO.mv ?_
                  refine VO.dec (t := 105) rfl (fun hc55 => ?_) (fun hc55 => ?_)
                  · -- FFFTFTFJTTTJTT
                    first | exact absurd rfl hc55 | exact absurd (by decide) hc55 | (refine absurd ?_ hc55; rw [lv0]; done) | (refine absurd ?_ hc55; rw [lv0]; exact (kl_fuse kl_new (by omega)).1) | exact absurd hk0.1 hc55 | exact absurd (kp_pull hkp (by assumption)).1 hc55 | exact absurd (kp_start (kp_pull hkp (by assumption)).2.1 (kp_pull hkp (by assumption)).2.2 (by omega) (by omega)).1 hc55 | exact absurd (kp_start hkp (kp_off hkp (by assumption)) (by omega) (by omega)).1 hc55 | exact absurd hko.1 hc55 | exact absurd hko.2.2.2.1 hc55 | exact absurd hkf.2.1 hc55 | exact absurd hkf.2.2.1 hc55 | (exfalso; omega)
                  · -- FFFTFTFJTTTJTF
                    refine VO.gy rfl ⟨_, rfl, rfl⟩ (.mv rfl) ?_
                    refine VO.gy rfl ⟨_, rfl, rfl⟩ (.mv rfl) ?_
                    refine VO.gy rfl ⟨_, rfl, rfl⟩ (.mv rfl) ?_
                    refine VO.gcall 147 rfl ⟨_, rfl, rfl⟩ fnOk28 rfl rfl (fun W hW => dStart_ok W (hW.at (i := 147) rfl) w52_0 d2 (by simp only [inK]; (exact fin1_walKeeps_ok)) d3 (by simp only [inK]; (exact fin1_walKeeps_ok)) (by assumption) (by exact fin1_walKeeps_ok)) (fun v56 m56 hv56 => ?_)
                    obtain ⟨rfl, w56_0⟩ := hv56
                    have hfa57 := (start_ok (k := d2) (t := d3) (show okD ((dPull v_0).1) by assumption))
                    have hfa58 := (start_w ((dPull v_0).1) d2 d3)
                    refine VO.gy rfl ⟨_, rfl, rfl⟩ (.neq rfl rfl) ?_
                    refine VO.y rfl (.pF rfl rfl) ?_
                    refine VO.clsP 159 [150, 147, 148, 149] rfl (fun hg59 => (mkP_walWal (s6_0, (dStart ((dPull v_0).1) d2 d3).1) v_1 v_2 v_3 hg59 w56_0 q46_2 (OwnL.ow (Ow.ownl q46_3 rfl mnil) rfl))) (fun mc59 ho59 => ?_)
                    refine VO.kp [159, 128, 127, 0] [(159, mc59), (128, su_m), (127, al_m), (0, wm W)] ?_
                    refine VO.k8 2 3 8 9 11 12 13 111 ?_
                    refine VC.cond rfl (fun hc60 => ?_) (fun hc60 => ?_)
                    · -- FFFTFTFJTTTJTFT
                      first | exact absurd rfl hc60 | exact absurd (by decide) hc60 | (refine absurd ?_ hc60; rw [lv0]; done) | (refine absurd ?_ hc60; rw [lv0]; exact (kl_fuse kl_new (by omega)).1) | exact absurd hk0.1 hc60 | exact absurd (kp_pull hkp (by assumption)).1 hc60 | exact absurd (kp_start (kp_pull hkp (by assumption)).2.1 (kp_pull hkp (by assumption)).2.2 (by omega) (by omega)).1 hc60 | exact absurd (kp_start hkp (kp_off hkp (by assumption)) (by omega) (by omega)).1 hc60 | exact absurd hko.1 hc60 | exact absurd hko.2.2.2.1 hc60 | exact absurd hkf.2.1 hc60 | exact absurd hkf.2.2.1 hc60 | (exfalso; omega)
                    · -- FFFTFTFJTTTJTFF
                      refine VC.skip ?_
                      refine outN ?_
                      refine VC.rs ?_
                      obtain ⟨q61_E, q61_A2, q61_c2, q61_A3, q61_c3, q61_n0, q61_n2, q61_n3, _, q61_S, q61_0, q61_2, q61_3⟩ := openP_walWal (x0 := (s6_0, (dStart ((dPull v_0).1) d2 d3).1)) (x1 := v_1) (x2 := v_2) (x3 := v_3) ho59
                      dsimp only at q61_0
                      have q61_r2 := q61_2.rm
                      have q61_r3 := q61_3.rm
                      refine VO.inv _ (fun _ h => h.parts (i := 159) rfl q61_S [165, 162, 163, 164]) ?_
                      have hkt : Kt ((dStart ((dPull v_0).1) d2 d3).1) (al) (su) := by first | exact (kp_start (kp_pull hkp (by assumption)).2.1 (kp_pull hkp (by assumption)).2.2 (by omega) (by omega)).2 | exact (kp_start hkp (kp_off hkp (by assumption)) (by omega) (by omega)).2
                      have hko := kt_open hkt
                      have hkf := kt_from hkt hal2
                      refine VO.mv ?_
                      by_cases hsp66 : (wOpen ((dStart ((dPull v_0).1) d2 d3).1)).2 = 0
                      · -- FFFTFTFJTTTJTFFT
                        refine VO.call 162 rfl fnOk15 rfl rfl (fun W hW => wOpenY_ok W (hW.at (i := 162) rfl) q61_0 (by assumption) (by exact fin1_walKeeps_ok) (by assumption)) (fun v67 m67 hv67 => ?_)
                        obtain ⟨s67_0, rfl, f67_0⟩ := hv67
                        have hfa68 := (open_ok (show okD ((dStart ((dPull v_0).1) d2 d3).1) by assumption))
                        have hfa69 := (open_w (show okD ((dStart ((dPull v_0).1) d2 d3).1) by assumption))
                        have hfa70 := (log_bounds (dRead ((dStart ((dPull v_0).1) d2 d3).1) 0).1)
                        have hfa71 := (okL_log ((dStart ((dPull v_0).1) d2 d3).1))
                        refine VO.mv ?_
                        refine VO.y rfl (.ext rfl rfl) ?_
                        refine VO.y rfl (.ext rfl rfl) ?_
                        refine VO.as ?_
                        refine VO.as ?_
                        refine VO.k9 2 3 8 9 11 12 13 18 111 ?_
                        refine VC.seq ?_
                        refine VC.rs ?_
                        refine VO.mv ?_
                        refine VO.y rfl (.neq rfl rfl) ?_
                        refine VO.mv ?_
                        refine VO.known (t := 119) false rfl (decide_eq_false hc15) ?_
                        refine VO.gy rfl ⟨_, rfl, rfl⟩ (.mv rfl) ?_
                        refine VO.gy rfl ⟨_, rfl, rfl⟩ (.pnil rfl rfl Try.underlying33 rfl) ?_
                        refine VO.y rfl (.pF rfl rfl) ?_
                        refine VO.k10 2 3 8 9 11 12 13 18 111 122 ?_
                        refine VC.condF rfl ?_
                        refine VC.skip ?_
                        refine outN ?_
                        refine VC.rs ?_
                        refine VO.mv ?_
                        refine VO.call 162 rfl fnOk29 rfl rfl (fun W hW => wFrom_ok W (hW.at (i := 162) rfl) f67_0 1 (by simp only [inK]; (exact fin1_walKeeps_ok)) 61 (by simp only [inK]; (exact fin1_walKeeps_ok)) (by assumption)) (fun v72 m72 hv72 => ?_)
                        try dsimp only at hv72
                        obtain ⟨s72_0, p72_0, p72_1, rfl, hS72, f72_0, w72_0⟩ := hv72
                        refine VO.inv _ (fun _ h => h.parts (i := 162) rfl hS72 [173, 174]) ?_
                        obtain ⟨A72_0, c72_0, eq72_0, l72_0, k72_0⟩ := f72_0.slice
                        subst eq72_0
                        simp only [maxLen] at k72_0
                        refine VO.as ?_
                        refine VO.kp [173, 174, 128, 127, 0] [(173, p72_0), (174, p72_1), (128, su_m), (127, al_m), (0, wm W)] ?_
                        refine VO.k11 2 3 8 9 11 12 13 18 19 111 122 ?_
                        refine VC.rs ?_
                        refine VO.mv ?_
                        obtain ⟨q75_E, q75_A2, q75_c2, q75_A3, q75_c3, q75_n0, q75_n2, q75_n3, _, q75_S, q75_0, q75_2, q75_3⟩ := openP_walWal (x0 := (s6_0, ((wOpen ((dStart ((dPull v_0).1) d2 d3).1)).1))) (x1 := false) (x2 := ((wLog ((dStart ((dPull v_0).1) d2 d3).1)).1)) (x3 := (endsC (wLog ((dStart ((dPull v_0).1) d2 d3).1)).1)) w72_0
                        dsimp only at q75_0
                        have q75_r2 := q75_2.rm
                        have q75_r3 := q75_3.rm
                        refine VO.inv _ (fun _ h => h.parts (i := 174) rfl q75_S [179, 176, 177, 178]) ?_
                        by_cases hsp80 : (wOpen ((wOpen ((dStart ((dPull v_0).1) d2 d3).1)).1)).2 = 0
                        · -- FFFTFTFJTTTJTFFTT
                          refine VO.call 176 rfl fnOk15 rfl rfl (fun W hW => wOpenY_ok W (hW.at (i := 176) rfl) q75_0 (by assumption) (by exact fin1_walKeeps_ok) (by assumption)) (fun v81 m81 hv81 => ?_)
                          obtain ⟨s81_0, rfl, f81_0⟩ := hv81
                          have hfa82 := (open_ok (show okD ((wOpen ((dStart ((dPull v_0).1) d2 d3).1)).1) by assumption))
                          have hfa83 := (open_w (show okD ((wOpen ((dStart ((dPull v_0).1) d2 d3).1)).1) by assumption))
                          have hfa84 := (log_bounds (dRead ((wOpen ((dStart ((dPull v_0).1) d2 d3).1)).1) 0).1)
                          have hfa85 := (okL_log ((wOpen ((dStart ((dPull v_0).1) d2 d3).1)).1))
                          refine VO.mv ?_
                          refine VO.y rfl (.ext rfl rfl) ?_
                          refine VO.y rfl (.ext rfl rfl) ?_
                          refine VO.as ?_
                          refine VO.as ?_
                          refine VO.k12 2 3 8 9 11 12 13 18 19 20 111 122 ?_
                          refine VC.rs ?_
                          refine VO.mv ?_
                          refine VO.y rfl (.eql rfl rfl) ?_
                          refine VO.mv ?_
                          refine VO.dec (t := 132) rfl (fun hc86 => ?_) (fun hc86 => ?_)
                          · -- FFFTFTFJTTTJTFFTTT
                            refine VO.gy rfl ⟨_, rfl, rfl⟩ (.mv rfl) ?_
                            refine VO.gy rfl ⟨_, rfl, rfl⟩ (.pnilN rfl rfl Try.underlying33 rfl) ?_
                            refine VO.y rfl (.pT rfl rfl) ?_
                            refine VO.mv ?_
                            refine VO.gy rfl ⟨_, rfl, rfl⟩ (.mv rfl) ?_
                            refine VO.gy rfl ⟨_, rfl, rfl⟩ (.mv rfl) ?_
                            refine VO.gcallN 187 rfl ⟨_, rfl, rfl⟩ fnOk30 rfl (fun W hW => begins12_ok W (OwnL.rd h_al (hW.at (i := 127) rfl) (hW.at (i := 0) rfl)) (Ow.rd f72_0 (hW.at (i := 173) rfl))) (fun v87 m87 hv87 => ?_)
                            subst hv87
                            refine VO.y rfl (.pT rfl rfl) ?_
                            refine VO.mv ?_
                            refine VO.dec (t := 141) rfl (fun hc88 => ?_) (fun hc88 => ?_)
                            · -- FFFTFTFJTTTJTFFTTTT
                              refine VO.gy rfl ⟨_, rfl, rfl⟩ (.mv rfl) ?_
                              refine VO.gy rfl ⟨_, rfl, rfl⟩ (.mv rfl) ?_
                              refine VO.gcallN 189 rfl ⟨_, rfl, rfl⟩ fnOk30 rfl (fun W hW => begins12_ok W (Ow.rd f72_0 (hW.at (i := 173) rfl)) (Ow.rd h_su (hW.at (i := 128) rfl))) (fun v89 m89 hv89 => ?_)
                              subst hv89
                              refine VO.y rfl (.pT rfl rfl) ?_
                              refine VO.mv ?_
                              refine VO.dec (t := 146) rfl (fun hc90 => ?_) (fun hc90 => ?_)
                              · -- FFFTFTFJTTTJTFFTTTTT
                                refine VO.gy rfl ⟨_, rfl, rfl⟩ (.mv rfl) ?_
                                refine VO.gcall 176 rfl ⟨_, rfl, rfl⟩ fnOk29 rfl rfl (fun W hW => wFrom_ok W (hW.at (i := 176) rfl) f81_0 1 (by simp only [inK]; (exact fin1_walKeeps_ok)) 61 (by simp only [inK]; (exact fin1_walKeeps_ok)) (by assumption)) (fun v91 m91 hv91 => ?_)
                                try dsimp only at hv91
                                obtain ⟨s91_0, p91_0, p91_1, rfl, hS91, f91_0, w91_0⟩ := hv91
                                refine VO.inv _ (fun _ h => h.parts (i := 176) rfl hS91 [192, 193]) ?_
                                obtain ⟨A91_0, c91_0, eq91_0, l91_0, k91_0⟩ := f91_0.slice
                                subst eq91_0
                                simp only [maxLen] at k91_0
                                refine VO.gy rfl ⟨_, rfl, rfl⟩ (.mv rfl) ?_
                                refine VO.gcallN 194 rfl ⟨_, rfl, rfl⟩ fnOk12 rfl (fun W hW => SameCommits_ok W (Ow.rd f91_0 (hW.at (i := 192) rfl)) (Ow.rd f72_0 (hW.at (i := 173) rfl))) (fun v94 m94 hv94 => ?_)
                                subst hv94
                                refine VO.y rfl (.pT rfl rfl) ?_
                                refine VO.as ?_
                                refine VO.k12 2 3 8 9 11 12 13 18 19 20 111 122 ?_
                                refine VC.ret ?_
                                refine ⟨_, _, res_run (rs := [.tmp 8]) rfl (.tmp rfl .nil), fun W_ hI => out_of (l := []) hI [] rfl rfl (mle_refl _) (fun hS_ => ?_)⟩
                                dsimp only [packV]
                                all_goals (first | rfl | (first | exact congrArg Value.bool (decide_eq_true hkf.2.2.2) | (simp [*]; done)))
                              · -- FFFTFTFJTTTJTFFTTTTF
                                first | exact absurd rfl hc90 | exact absurd (by decide) hc90 | (refine absurd ?_ hc90; rw [lv0]; done) | (refine absurd ?_ hc90; rw [lv0]; exact (kl_fuse kl_new (by omega)).1) | exact absurd hk0.1 hc90 | exact absurd (kp_pull hkp (by assumption)).1 hc90 | exact absurd (kp_start (kp_pull hkp (by assumption)).2.1 (kp_pull hkp (by assumption)).2.2 (by omega) (by omega)).1 hc90 | exact absurd (kp_start hkp (kp_off hkp (by assumption)) (by omega) (by omega)).1 hc90 | exact absurd hko.1 hc90 | exact absurd hko.2.2.2.1 hc90 | exact absurd hkf.2.1 hc90 | exact absurd hkf.2.2.1 hc90 | (exfalso; omega)
                            · -- FFFTFTFJTTTJTFFTTTF
                              first | exact absurd rfl hc88 | exact absurd (by decide) hc88 | (refine absurd ?_ hc88; rw [lv0]; done) | (refine absurd ?_ hc88; rw [lv0]; exact (kl_fuse kl_new (by omega)).1) | exact absurd hk0.1 hc88 | exact absurd (kp_pull hkp (by assumption)).1 hc88 | exact absurd (kp_start (kp_pull hkp (by assumption)).2.1 (kp_pull hkp (by assumption)).2.2 (by omega) (by omega)).1 hc88 | exact absurd (kp_start hkp (kp_off hkp (by assumption)) (by omega) (by omega)).1 hc88 | exact absurd hko.1 hc88 | exact absurd hko.2.2.2.1 hc88 | exact absurd hkf.2.1 hc88 | exact absurd hkf.2.2.1 hc88 | (exfalso; omega)
                          · -- FFFTFTFJTTTJTFFTTF
                            first | exact absurd rfl hc86 | exact absurd (by decide) hc86 | (refine absurd ?_ hc86; rw [lv0]; done) | (refine absurd ?_ hc86; rw [lv0]; exact (kl_fuse kl_new (by omega)).1) | exact absurd hk0.1 hc86 | exact absurd (kp_pull hkp (by assumption)).1 hc86 | exact absurd (kp_start (kp_pull hkp (by assumption)).2.1 (kp_pull hkp (by assumption)).2.2 (by omega) (by omega)).1 hc86 | exact absurd (kp_start hkp (kp_off hkp (by assumption)) (by omega) (by omega)).1 hc86 | exact absurd hko.1 hc86 | exact absurd hko.2.2.2.1 hc86 | exact absurd hkf.2.1 hc86 | exact absurd hkf.2.2.1 hc86 | (exfalso; omega)
                        · -- FFFTFTFJTTTJTFFTF
                          first | exact absurd rfl hsp80 | exact absurd (by decide) hsp80 | (refine absurd ?_ hsp80; rw [lv0]; done) | (refine absurd ?_ hsp80; rw [lv0]; exact (kl_fuse kl_new (by omega)).1) | exact absurd hk0.1 hsp80 | exact absurd (kp_pull hkp (by assumption)).1 hsp80 | exact absurd (kp_start (kp_pull hkp (by assumption)).2.1 (kp_pull hkp (by assumption)).2.2 (by omega) (by omega)).1 hsp80 | exact absurd (kp_start hkp (kp_off hkp (by assumption)) (by omega) (by omega)).1 hsp80 | exact absurd hko.1 hsp80 | exact absurd hko.2.2.2.1 hsp80 | exact absurd hkf.2.1 hsp80 | exact absurd hkf.2.2.1 hsp80 | (exfalso; omega)
                      · -- FFFTFTFJTTTJTFFF
                        first | exact absurd rfl hsp66 | exact absurd (by decide) hsp66 | (refine absurd ?_ hsp66; rw [lv0]; done) | (refine absurd ?_ hsp66; rw [lv0]; exact (kl_fuse kl_new (by omega)).1) | exact absurd hk0.1 hsp66 | exact absurd (kp_pull hkp (by assumption)).1 hsp66 | exact absurd (kp_start (kp_pull hkp (by assumption)).2.1 (kp_pull hkp (by assumption)).2.2 (by omega) (by omega)).1 hsp66 | exact absurd (kp_start hkp (kp_off hkp (by assumption)) (by omega) (by omega)).1 hsp66 | exact absurd hko.1 hsp66 | exact absurd hko.2.2.2.1 hsp66 | exact absurd hkf.2.1 hsp66 | exact absurd hkf.2.2.1 hsp66 | (exfalso; omega)
                · -- FFFTFTFJTTTJF
                  refine VO.gN ?_
                  refine VO.gN ?_
                  refine VO.gN ?_
                  refine VO.y rfl (.pF rfl rfl) ?_
                  refine VO.mv ?_
                  refine VO.gy rfl ⟨_, rfl, rfl⟩ (.mv rfl) ?_
                  refine VO.gy rfl ⟨_, rfl, rfl⟩ (.mv rfl) ?_
                  refine VO.gy rfl ⟨_, rfl, rfl⟩ (.mv rfl) ?_
                  refine VO.gcall 147 rfl ⟨_, rfl, rfl⟩ fnOk28 rfl rfl (fun W hW => dStart_ok W (hW.at (i := 147) rfl) w45_0 d2 (by simp only [inK]; (exact fin1_walKeeps_ok)) d3 (by simp only [inK]; (exact fin1_walKeeps_ok)) (by assumption) (by exact fin1_walKeeps_ok)) (fun v95 m95 hv95 => ?_)
                  obtain ⟨rfl, w95_0⟩ := hv95
                  have hfa96 := (start_ok (k := d2) (t := d3) (show okD v_0 by assumption))
                  have hfa97 := (start_w v_0 d2 d3)
                  refine VO.gy rfl ⟨_, rfl, rfl⟩ (.neq rfl rfl) ?_
                  refine VO.y rfl (.pF rfl rfl) ?_
                  refine VO.clsP 198 [150, 147, 148, 149] rfl (fun hg98 => (mkP_walWal (s6_0, (dStart v_0 d2 d3).1) v_1 v_2 v_3 hg98 w95_0 q46_2 (OwnL.ow (Ow.ownl q46_3 rfl mnil) rfl))) (fun mc98 ho98 => ?_)
                  refine VO.kp [198, 128, 127, 0] [(198, mc98), (128, su_m), (127, al_m), (0, wm W)] ?_
                  refine VO.k8 2 3 8 9 11 12 13 111 ?_
                  refine VC.cond rfl (fun hc99 => ?_) (fun hc99 => ?_)
                  · -- FFFTFTFJTTTJFT
                    first | exact absurd rfl hc99 | exact absurd (by decide) hc99 | (refine absurd ?_ hc99; rw [lv0]; done) | (refine absurd ?_ hc99; rw [lv0]; exact (kl_fuse kl_new (by omega)).1) | exact absurd hk0.1 hc99 | exact absurd (kp_pull hkp (by assumption)).1 hc99 | exact absurd (kp_start (kp_pull hkp (by assumption)).2.1 (kp_pull hkp (by assumption)).2.2 (by omega) (by omega)).1 hc99 | exact absurd (kp_start hkp (kp_off hkp (by assumption)) (by omega) (by omega)).1 hc99 | exact absurd hko.1 hc99 | exact absurd hko.2.2.2.1 hc99 | exact absurd hkf.2.1 hc99 | exact absurd hkf.2.2.1 hc99 | (exfalso; omega)
                  · -- FFFTFTFJTTTJFF
                    refine VC.skip ?_
                    refine outN ?_
                    refine VC.rs ?_
                    obtain ⟨q100_E, q100_A2, q100_c2, q100_A3, q100_c3, q100_n0, q100_n2, q100_n3, _, q100_S, q100_0, q100_2, q100_3⟩ := openP_walWal (x0 := (s6_0, (dStart v_0 d2 d3).1)) (x1 := v_1) (x2 := v_2) (x3 := v_3) ho98
                    dsimp only at q100_0
                    have q100_r2 := q100_2.rm
                    have q100_r3 := q100_3.rm
                    refine VO.inv _ (fun _ h => h.parts (i := 198) rfl q100_S [204, 201, 202, 203]) ?_
                    have hkt : Kt ((dStart v_0 d2 d3).1) (al) (su) := by first | exact (kp_start (kp_pull hkp (by assumption)).2.1 (kp_pull hkp (by assumption)).2.2 (by omega) (by omega)).2 | exact (kp_start hkp (kp_off hkp (by assumption)) (by omega) (by omega)).2
                    have hko := kt_open hkt
                    have hkf := kt_from hkt hal2
                    refine VO.mv ?_
                    by_cases hsp105 : (wOpen ((dStart v_0 d2 d3).1)).2 = 0
                    · -- FFFTFTFJTTTJFFT
                      refine VO.call 201 rfl fnOk15 rfl rfl (fun W hW => wOpenY_ok W (hW.at (i := 201) rfl) q100_0 (by assumption) (by exact fin1_walKeeps_ok) (by assumption)) (fun v106 m106 hv106 => ?_)
                      obtain ⟨s106_0, rfl, f106_0⟩ := hv106
                      have hfa107 := (open_ok (show okD ((dStart v_0 d2 d3).1) by assumption))
                      have hfa108 := (open_w (show okD ((dStart v_0 d2 d3).1) by assumption))
                      have hfa109 := (log_bounds (dRead ((dStart v_0 d2 d3).1) 0).1)
                      have hfa110 := (okL_log ((dStart v_0 d2 d3).1))
                      refine VO.mv ?_
                      refine VO.y rfl (.ext rfl rfl) ?_
                      refine VO.y rfl (.ext rfl rfl) ?_
                      refine VO.as ?_
                      refine VO.as ?_
                      refine VO.k9 2 3 8 9 11 12 13 18 111 ?_
                      refine VC.seq ?_
                      refine VC.rs ?_
                      refine VO.mv ?_
                      refine VO.y rfl (.neq rfl rfl) ?_
                      refine VO.mv ?_
                      refine VO.known (t := 119) false rfl (decide_eq_false hc15) ?_
                      refine VO.gy rfl ⟨_, rfl, rfl⟩ (.mv rfl) ?_
                      refine VO.gy rfl ⟨_, rfl, rfl⟩ (.pnil rfl rfl Try.underlying33 rfl) ?_
                      refine VO.y rfl (.pF rfl rfl) ?_
                      refine VO.k10 2 3 8 9 11 12 13 18 111 122 ?_
                      refine VC.condF rfl ?_
                      refine VC.skip ?_
                      refine outN ?_
                      refine VC.rs ?_
                      refine VO.mv ?_
                      refine VO.call 201 rfl fnOk29 rfl rfl (fun W hW => wFrom_ok W (hW.at (i := 201) rfl) f106_0 1 (by simp only [inK]; (exact fin1_walKeeps_ok)) 61 (by simp only [inK]; (exact fin1_walKeeps_ok)) (by assumption)) (fun v111 m111 hv111 => ?_)
                      try dsimp only at hv111
                      obtain ⟨s111_0, p111_0, p111_1, rfl, hS111, f111_0, w111_0⟩ := hv111
                      refine VO.inv _ (fun _ h => h.parts (i := 201) rfl hS111 [212, 213]) ?_
                      obtain ⟨A111_0, c111_0, eq111_0, l111_0, k111_0⟩ := f111_0.slice
                      subst eq111_0
                      simp only [maxLen] at k111_0
                      refine VO.as ?_
                      refine VO.kp [212, 213, 128, 127, 0] [(212, p111_0), (213, p111_1), (128, su_m), (127, al_m), (0, wm W)] ?_
                      refine VO.k11 2 3 8 9 11 12 13 18 19 111 122 ?_
                      refine VC.rs ?_
                      refine VO.mv ?_
                      obtain ⟨q114_E, q114_A2, q114_c2, q114_A3, q114_c3, q114_n0, q114_n2, q114_n3, _, q114_S, q114_0, q114_2, q114_3⟩ := openP_walWal (x0 := (s6_0, ((wOpen ((dStart v_0 d2 d3).1)).1))) (x1 := false) (x2 := ((wLog ((dStart v_0 d2 d3).1)).1)) (x3 := (endsC (wLog ((dStart v_0 d2 d3).1)).1)) w111_0
                      dsimp only at q114_0
                      have q114_r2 := q114_2.rm
                      have q114_r3 := q114_3.rm
                      refine VO.inv _ (fun _ h => h.parts (i := 213) rfl q114_S [218, 215, 216, 217]) ?_
                      by_cases hsp119 : (wOpen ((wOpen ((dStart v_0 d2 d3).1)).1)).2 = 0
                      · -- FFFTFTFJTTTJFFTT
                        refine VO.call 215 rfl fnOk15 rfl rfl (fun W hW => wOpenY_ok W (hW.at (i := 215) rfl) q114_0 (by assumption) (by exact fin1_walKeeps_ok) (by assumption)) (fun v120 m120 hv120 => ?_)
                        obtain ⟨s120_0, rfl, f120_0⟩ := hv120
                        have hfa121 := (open_ok (show okD ((wOpen ((dStart v_0 d2 d3).1)).1) by assumption))
                        have hfa122 := (open_w (show okD ((wOpen ((dStart v_0 d2 d3).1)).1) by assumption))
                        have hfa123 := (log_bounds (dRead ((wOpen ((dStart v_0 d2 d3).1)).1) 0).1)
                        have hfa124 := (okL_log ((wOpen ((dStart v_0 d2 d3).1)).1))
                        refine VO.mv ?_
                        refine VO.y rfl (.ext rfl rfl) ?_
                        refine VO.y rfl (.ext rfl rfl) ?_
                        refine VO.as ?_
                        refine VO.as ?_
                        refine VO.k12 2 3 8 9 11 12 13 18 19 20 111 122 ?_
                        refine VC.rs ?_
                        refine VO.mv ?_
                        refine VO.y rfl (.eql rfl rfl) ?_
                        refine VO.mv ?_
                        refine VO.dec (t := 132) rfl (fun hc125 => ?_) (fun hc125 => ?_)
                        · -- FFFTFTFJTTTJFFTTT
                          refine VO.gy rfl ⟨_, rfl, rfl⟩ (.mv rfl) ?_
                          refine VO.gy rfl ⟨_, rfl, rfl⟩ (.pnilN rfl rfl Try.underlying33 rfl) ?_
                          refine VO.y rfl (.pT rfl rfl) ?_
                          refine VO.mv ?_
                          refine VO.gy rfl ⟨_, rfl, rfl⟩ (.mv rfl) ?_
                          refine VO.gy rfl ⟨_, rfl, rfl⟩ (.mv rfl) ?_
                          refine VO.gcallN 226 rfl ⟨_, rfl, rfl⟩ fnOk30 rfl (fun W hW => begins12_ok W (OwnL.rd h_al (hW.at (i := 127) rfl) (hW.at (i := 0) rfl)) (Ow.rd f111_0 (hW.at (i := 212) rfl))) (fun v126 m126 hv126 => ?_)
                          subst hv126
                          refine VO.y rfl (.pT rfl rfl) ?_
                          refine VO.mv ?_
                          refine VO.dec (t := 141) rfl (fun hc127 => ?_) (fun hc127 => ?_)
                          · -- FFFTFTFJTTTJFFTTTT
                            refine VO.gy rfl ⟨_, rfl, rfl⟩ (.mv rfl) ?_
                            refine VO.gy rfl ⟨_, rfl, rfl⟩ (.mv rfl) ?_
                            refine VO.gcallN 228 rfl ⟨_, rfl, rfl⟩ fnOk30 rfl (fun W hW => begins12_ok W (Ow.rd f111_0 (hW.at (i := 212) rfl)) (Ow.rd h_su (hW.at (i := 128) rfl))) (fun v128 m128 hv128 => ?_)
                            subst hv128
                            refine VO.y rfl (.pT rfl rfl) ?_
                            refine VO.mv ?_
                            refine VO.dec (t := 146) rfl (fun hc129 => ?_) (fun hc129 => ?_)
                            · -- FFFTFTFJTTTJFFTTTTT
                              refine VO.gy rfl ⟨_, rfl, rfl⟩ (.mv rfl) ?_
                              refine VO.gcall 215 rfl ⟨_, rfl, rfl⟩ fnOk29 rfl rfl (fun W hW => wFrom_ok W (hW.at (i := 215) rfl) f120_0 1 (by simp only [inK]; (exact fin1_walKeeps_ok)) 61 (by simp only [inK]; (exact fin1_walKeeps_ok)) (by assumption)) (fun v130 m130 hv130 => ?_)
                              try dsimp only at hv130
                              obtain ⟨s130_0, p130_0, p130_1, rfl, hS130, f130_0, w130_0⟩ := hv130
                              refine VO.inv _ (fun _ h => h.parts (i := 215) rfl hS130 [231, 232]) ?_
                              obtain ⟨A130_0, c130_0, eq130_0, l130_0, k130_0⟩ := f130_0.slice
                              subst eq130_0
                              simp only [maxLen] at k130_0
                              refine VO.gy rfl ⟨_, rfl, rfl⟩ (.mv rfl) ?_
                              refine VO.gcallN 233 rfl ⟨_, rfl, rfl⟩ fnOk12 rfl (fun W hW => SameCommits_ok W (Ow.rd f130_0 (hW.at (i := 231) rfl)) (Ow.rd f111_0 (hW.at (i := 212) rfl))) (fun v133 m133 hv133 => ?_)
                              subst hv133
                              refine VO.y rfl (.pT rfl rfl) ?_
                              refine VO.as ?_
                              refine VO.k12 2 3 8 9 11 12 13 18 19 20 111 122 ?_
                              refine VC.ret ?_
                              refine ⟨_, _, res_run (rs := [.tmp 8]) rfl (.tmp rfl .nil), fun W_ hI => out_of (l := []) hI [] rfl rfl (mle_refl _) (fun hS_ => ?_)⟩
                              dsimp only [packV]
                              all_goals (first | rfl | (first | exact congrArg Value.bool (decide_eq_true hkf.2.2.2) | (simp [*]; done)))
                            · -- FFFTFTFJTTTJFFTTTTF
                              first | exact absurd rfl hc129 | exact absurd (by decide) hc129 | (refine absurd ?_ hc129; rw [lv0]; done) | (refine absurd ?_ hc129; rw [lv0]; exact (kl_fuse kl_new (by omega)).1) | exact absurd hk0.1 hc129 | exact absurd (kp_pull hkp (by assumption)).1 hc129 | exact absurd (kp_start (kp_pull hkp (by assumption)).2.1 (kp_pull hkp (by assumption)).2.2 (by omega) (by omega)).1 hc129 | exact absurd (kp_start hkp (kp_off hkp (by assumption)) (by omega) (by omega)).1 hc129 | exact absurd hko.1 hc129 | exact absurd hko.2.2.2.1 hc129 | exact absurd hkf.2.1 hc129 | exact absurd hkf.2.2.1 hc129 | (exfalso; omega)
                          · -- FFFTFTFJTTTJFFTTTF
                            first | exact absurd rfl hc127 | exact absurd (by decide) hc127 | (refine absurd ?_ hc127; rw [lv0]; done) | (refine absurd ?_ hc127; rw [lv0]; exact (kl_fuse kl_new (by omega)).1) | exact absurd hk0.1 hc127 | exact absurd (kp_pull hkp (by assumption)).1 hc127 | exact absurd (kp_start (kp_pull hkp (by assumption)).2.1 (kp_pull hkp (by assumption)).2.2 (by omega) (by omega)).1 hc127 | exact absurd (kp_start hkp (kp_off hkp (by assumption)) (by omega) (by omega)).1 hc127 | exact absurd hko.1 hc127 | exact absurd hko.2.2.2.1 hc127 | exact absurd hkf.2.1 hc127 | exact absurd hkf.2.2.1 hc127 | (exfalso; omega)
                        · -- FFFTFTFJTTTJFFTTF
                          first | exact absurd rfl hc125 | exact absurd (by decide) hc125 | (refine absurd ?_ hc125; rw [lv0]; done) | (refine absurd ?_ hc125; rw [lv0]; exact (kl_fuse kl_new (by omega)).1) | exact absurd hk0.1 hc125 | exact absurd (kp_pull hkp (by assumption)).1 hc125 | exact absurd (kp_start (kp_pull hkp (by assumption)).2.1 (kp_pull hkp (by assumption)).2.2 (by omega) (by omega)).1 hc125 | exact absurd (kp_start hkp (kp_off hkp (by assumption)) (by omega) (by omega)).1 hc125 | exact absurd hko.1 hc125 | exact absurd hko.2.2.2.1 hc125 | exact absurd hkf.2.1 hc125 | exact absurd hkf.2.2.1 hc125 | (exfalso; omega)
                      · -- FFFTFTFJTTTJFFTF
                        first | exact absurd rfl hsp119 | exact absurd (by decide) hsp119 | (refine absurd ?_ hsp119; rw [lv0]; done) | (refine absurd ?_ hsp119; rw [lv0]; exact (kl_fuse kl_new (by omega)).1) | exact absurd hk0.1 hsp119 | exact absurd (kp_pull hkp (by assumption)).1 hsp119 | exact absurd (kp_start (kp_pull hkp (by assumption)).2.1 (kp_pull hkp (by assumption)).2.2 (by omega) (by omega)).1 hsp119 | exact absurd (kp_start hkp (kp_off hkp (by assumption)) (by omega) (by omega)).1 hsp119 | exact absurd hko.1 hsp119 | exact absurd hko.2.2.2.1 hsp119 | exact absurd hkf.2.1 hsp119 | exact absurd hkf.2.2.1 hsp119 | (exfalso; omega)
                    · -- FFFTFTFJTTTJFFF
                      first | exact absurd rfl hsp105 | exact absurd (by decide) hsp105 | (refine absurd ?_ hsp105; rw [lv0]; done) | (refine absurd ?_ hsp105; rw [lv0]; exact (kl_fuse kl_new (by omega)).1) | exact absurd hk0.1 hsp105 | exact absurd (kp_pull hkp (by assumption)).1 hsp105 | exact absurd (kp_start (kp_pull hkp (by assumption)).2.1 (kp_pull hkp (by assumption)).2.2 (by omega) (by omega)).1 hsp105 | exact absurd (kp_start hkp (kp_off hkp (by assumption)) (by omega) (by omega)).1 hsp105 | exact absurd hko.1 hsp105 | exact absurd hko.2.2.2.1 hsp105 | exact absurd hkf.2.1 hsp105 | exact absurd hkf.2.2.1 hsp105 | (exfalso; omega)
              · -- FFFTFTFJA
                intro hJ2
                refine VC.rs ?_
                refine VO.as ?_
                refine VO.kp [125, 0] [(125, f_m), (0, wm W)] ?_
                refine VO.k10 0 2 3 8 9 10 11 12 13 14 ?_
                refine VC.block ?_
                refine VC.inv ((234, mnil) :: _) (fun _ h => h.nilc 234) ?_
                refine VC.inv ((235, mnil) :: _) (fun _ h => h.nilc 235) ?_
                refine VC.loop (G := Nat × DdiskDisk × Bool × (List DCommit) × (List Int) × Mem × (List DCommit) × (Option Addr) × Nat × Mem × (List DCommit) × (Option Addr) × Nat × Mem) (fun g => [(12, Value.slice (g.2.2.2.2.2.2.2.1) ((g.2.2.2.2.2.2.1).length) ((g.2.2.2.2.2.2.2.2.1))), (13, Value.slice (g.2.2.2.2.2.2.2.2.2.2.2.1) ((g.2.2.2.2.2.2.2.2.2.2.1).length) ((g.2.2.2.2.2.2.2.2.2.2.2.2.1))), (14, Value.int .i64 ((((g.1) : Nat) : Int))), (0, Value.slice A0 (d0.length) (c0)), (2, Value.int .i64 (d2)), (3, Value.int .i64 (d3)), (8, Value.bool false), (9, Value.pointer (some ⟨s6_0, 0, none⟩)), (10, Value.pointer (some ⟨s10_0, 0, none⟩)), (11, Value.int .i64 (0))]) (fun g => [(235, (g.2.2.2.2.2.2.2.2.2.2.2.2.2)), (234, (g.2.2.2.2.2.2.2.2.2.1)), (125, (g.2.2.2.2.2.1)), (0, wm W)]) (fun g => ((g.1) ≤ d0.length) ∧ (Kl (g.2.1) (g.2.2.2.2.2.2.1) (g.2.2.2.2.2.2.2.2.2.2.1)) ∧ ((g.2.2.1) = false) ∧ ((g.2.2.2.1) = (g.2.2.2.2.2.2.1)) ∧ ((g.2.2.2.2.1) = endsC (g.2.2.2.2.2.2.1)) ∧ (wD (g.2.1) ≤ 2200 * (g.1) + 10) ∧ ((g.2.2.2.2.2.2.1).length ≤ (g.1)) ∧ (OwnL TCommit (g.2.2.2.2.2.2.2.2.2.1) (wm W) (.slice (g.2.2.2.2.2.2.2.1) (g.2.2.2.2.2.2.1).length (g.2.2.2.2.2.2.2.2.1)) (g.2.2.2.2.2.2.1)) ∧ (Ow (.sl TCommit) (g.2.2.2.2.2.2.2.2.2.2.2.2.2) [.slice (g.2.2.2.2.2.2.2.2.2.2.2.1) (g.2.2.2.2.2.2.2.2.2.2.1).length (g.2.2.2.2.2.2.2.2.2.2.2.2.1)] (g.2.2.2.2.2.2.2.2.2.2.1)) ∧ (Ow (.ptr TwalWal) (g.2.2.2.2.2.1) [.pointer (some ⟨s10_0, 0, none⟩)] (s10_0, ((s6_0, (g.2.1)), (g.2.2.1), (g.2.2.2.1), (g.2.2.2.2.1))))) (fun g => d0.length - (g.1)) (0, f_0, f_1, f_2, f_3, f_m, [], none, 0, mnil, [], none, 0, mnil) (⟨by (dsimp only; omega), by exact hk0, by exact hb0, by exact hc0, by exact he0, by (dsimp only; omega), by simp, (OwnL.nil TCommit mnil (wm W)), (Ow.nil TCommit mnil), h_f⟩) ⟨⟨rfl, rfl, rfl, rfl, rfl, rfl, rfl, rfl, rfl, rfl, trivial⟩, fun _ h => h.sub [235, 234, 125, 0]⟩ ?_
                rintro ⟨i, w_0, w_1, w_2, w_3, w_m, all, all_A, all_c, all_m, sure, sure_A, sure_c, sure_m⟩ ⟨hi, hk, hb, hc, he, hw, hal, h_all, h_sure, h_w⟩
                replace hi : i ≤ d0.length := hi
                replace hk : Kl w_0 all sure := hk
                replace hb : w_1 = false := hb
                replace hc : w_2 = all := hc
                replace he : w_3 = endsC all := he
                replace hw : wD w_0 ≤ 2200 * i + 10 := hw
                replace hal : all.length ≤ i := hal
                replace h_all : OwnL TCommit all_m (wm W) (.slice all_A all.length all_c) all := h_all
                replace h_sure : Ow (.sl TCommit) sure_m [.slice sure_A sure.length sure_c] sure := h_sure
                replace h_w : Ow (.ptr TwalWal) w_m [.pointer (some ⟨s10_0, 0, none⟩)] (s10_0, ((s6_0, w_0), w_1, w_2, w_3)) := h_w
                show VC _ _ _ _ _ [(12, Value.slice all_A (all.length) (all_c)), (13, Value.slice sure_A (sure.length) (sure_c)), (14, Value.int .i64 (((i : Nat) : Int))), (0, Value.slice A0 (d0.length) (c0)), (2, Value.int .i64 (d2)), (3, Value.int .i64 (d3)), (8, Value.bool false), (9, Value.pointer (some ⟨s6_0, 0, none⟩)), (10, Value.pointer (some ⟨s10_0, 0, none⟩)), (11, Value.int .i64 (0))] [(235, sure_m), (234, all_m), (125, w_m), (0, wm W)]
                have l_all : all.length ≤ all_c := by obtain ⟨_, _, he, hl, _⟩ := h_all.slice; simp only [Value.slice.injEq] at he; omega
                have k_all : all_c ≤ 9223372036854775807 := by obtain ⟨_, _, he, _, hl⟩ := h_all.slice; simp only [Value.slice.injEq, maxLen] at he hl; omega
                have l_sure : sure.length ≤ sure_c := by obtain ⟨_, _, he, hl, _⟩ := h_sure.slice; simp only [Value.slice.injEq] at he; omega
                have k_sure : sure_c ≤ 9223372036854775807 := by obtain ⟨_, _, he, _, hl⟩ := h_sure.slice; simp only [Value.slice.injEq, maxLen] at he hl; omega
                have hsm := Decidable.not_not.1 ‹¬ ¬ smallW d0›
                have hsm2 := hsm.2
                have hok := kp_ok (kl_kp hk)
                have hokl : okL w_2 := by rw [hc]; exact hk.2.1
                have hew : w_3 = endsC w_2 := by rw [hc]; exact he
                refine VC.seq ?_
                refine VC.rs ?_
                refine VO.mv ?_
                refine VO.mv ?_
                refine VO.y rfl (.lenS rfl tsl46) ?_
                refine VO.y rfl (.lss rfl rfl) ?_
                refine VO.k11 0 2 3 8 9 10 11 12 13 14 57 ?_
                refine VC.cond rfl (fun hc136 => ?_) (fun hc136 => ?_)
                · -- FFFTFTFJAT
                  refine VC.skip ?_
                  refine outN ?_
                  refine VC.seq ?_
                  refine VC.block ?_
                  refine VC.rs ?_
                  refine VO.as ?_
                  refine VO.k12 0 2 3 8 9 10 11 12 13 14 15 57 ?_
                  refine VC.seq ?_
                  refine VC.rs ?_
                  refine VO.mv ?_
                  refine VO.y rfl (.lenS rfl tsl25) ?_
                  refine VO.y rfl (.gtr rfl rfl) ?_
                  refine VO.kp [235, 234, 125, 0] [(235, sure_m), (234, all_m), (125, w_m), (0, wm W)] ?_
                  refine VO.k13 0 2 3 8 9 10 11 12 13 14 15 57 62 ?_
                  refine VC.cond rfl (fun hc137 => ?_) (fun hc137 => ?_)
                  · -- FFFTFTFJATT
                    refine VC.reg ?_
                    refine VO.mv ?_
                    refine VO.mv ?_
                    refine VO.y rfl (.lenS rfl tsl25) ?_
                    refine VO.y rfl (.sub rfl rfl rfl ⟨by exact fin1_walKeeps_ok, by exact fin1_walKeeps_ok⟩) ?_
                    obtain ⟨x138, hx138⟩ : ∃ z_, (all)[(((all.length : Nat) : Int) - 1).toNat]? = some z_ := ⟨_, List.getElem?_eq_getElem (by exact fin1_walKeeps_ok)⟩
                    obtain ⟨gg138, oo138, ec138, ea138, hce138, hre138⟩ := h_all.elem hx138
                    cases ea138
                    obtain ⟨q138_A2, q138_c2, rfl, q138_0, q138_1, q138_2⟩ := open_Commit (x0 := x138.1) (x1 := x138.2.1) (x2 := x138.2.2) hre138
                    simp only [inK] at q138_0
                    simp only [inK] at q138_1
                    have q138_r2 := Rd.room q138_2
                    refine VO.y rfl (.ixI ((((all.length : Nat) : Int) - 1).toNat) rfl rfl tsl25 (by exact fin1_walKeeps_ok) (by exact fin1_walKeeps_ok)) ?_
                    refine VO.y rfl (.fa rfl tst42 rfl) ?_
                    refine VO.y rfl (.ld1 234 rfl tk3 rfl (hce138.at1 (j := 0) rfl)) ?_
                    refine VO.as ?_
                    refine VO.k13 0 2 3 8 9 10 11 12 13 14 15 57 62 ?_
                    refine outN ?_
                    refine VC.rs ?_
                    refine VO.mv ?_
                    refine VO.mv ?_
                    obtain ⟨x139, hx139⟩ : ∃ z_, (d0)[i]? = some z_ := ⟨_, List.getElem?_eq_getElem (by exact fin1_walKeeps_ok)⟩
                    obtain ⟨gg139, oo139, ec139, ea139, hce139, hre139⟩ := h0.elem hx139
                    cases ea139
                    obtain ⟨q139_A5, q139_c5, rfl, q139_0, q139_1, q139_2, q139_3, q139_4, q139_5⟩ := open_law12Act (x0 := x139.1) (x1 := x139.2.1) (x2 := x139.2.2.1) (x3 := x139.2.2.2.1) (x4 := x139.2.2.2.2.1) (x5 := x139.2.2.2.2.2) hre139
                    simp only [inK] at q139_0
                    simp only [inK] at q139_1
                    simp only [inK] at q139_2
                    simp only [inK] at q139_3
                    simp only [inK] at q139_4
                    have q139_r5 := Rd.room q139_5
                    refine VO.y rfl (.ixI i rfl rfl tsl46 rfl (by exact fin1_walKeeps_ok)) ?_
                    refine VO.y rfl (.ldA 0 rfl tk50 rfl hce139) ?_
                    refine VO.mv ?_
                    refine VO.mv ?_
                    refine VO.y rfl (.lenS rfl tsl25) ?_
                    refine VO.callN 240 rfl fnOk23 rfl (fun W hW => next12_ok W (Rd.mono hre139 (hW.at (i := 0) rfl)) x138.1 (by simp only [inK]; (exact fin1_walKeeps_ok)) ((all.length : Nat) : Int) (by simp only [inK]; (exact fin1_walKeeps_ok)) (by exact fin1_walKeeps_ok)) (fun v140 m140 hv140 => ?_)
                    try simp only [List.getD_cons_succ, List.getD_cons_zero] at hv140
                    subst hv140
                    have hfa141 := pickI_bounds x139.2.1 3 (by omega)
                    refine VO.alloc 243 rfl tz42 (fun g142 => ?_)
                    refine VO.store (k := 3) (c' := [Value.int .i64 (max 1 x138.1 + pickI x139.2.1 3), Value.int .i64 (((all.length : Nat) : Int) + 1), Value.slice q139_A5 (x139.2.2.2.2.2.length) (q139_c5)]) 243 rfl rfl (.inl tk42) rfl rfl rfl rfl rfl ?_
                    refine VO.k14 0 2 3 8 9 10 11 12 13 14 15 16 57 62 ?_
                    refine VC.rs ?_
                    refine VO.mv ?_
                    refine VO.y rfl (.ldA 243 rfl tk42 rfl (cellsAt_one rfl rfl)) ?_
                    refine VO.call 125 rfl fnOk17 rfl rfl (fun W hW => wApp_ok W (hW.at (i := 125) rfl) h_w (mk_Commit (m := mout (wm W) (w_m)) (max 1 x138.1 + pickI x139.2.1 3) (((all.length : Nat) : Int) + 1) x139.2.2.2.2.2 (by simp only [inK]; (exact fin1_walKeeps_ok)) (by simp only [inK]; (exact fin1_walKeeps_ok)) (Rd.mono q139_5 (hW.out (i := 125) (j := 0) rfl rfl))) (by assumption) (by exact fin1_walKeeps_ok) (by assumption) (by first | assumption | rfl)) (fun v144 m144 hv144 => ?_)
                    try dsimp only at hv144
                    obtain ⟨rfl, w144_0⟩ := hv144
                    have hfa145 := (app_ok (br := w_1) (l := w_2) (c := (max 1 x138.1 + pickI x139.2.1 3, ((all.length : Nat) : Int) + 1, x139.2.2.2.2.2)) (show okD w_0 by assumption))
                    have hfa146 := (app_w (br := w_1) (l := w_2) (c := (max 1 x138.1 + pickI x139.2.1 3, ((all.length : Nat) : Int) + 1, x139.2.2.2.2.2)) (show okD w_0 by assumption))
                    have hfa147 := (app_l (d := w_0) (br := w_1) (c := (max 1 x138.1 + pickI x139.2.1 3, ((all.length : Nat) : Int) + 1, x139.2.2.2.2.2)) (show okL w_2 by assumption))
                    refine VO.as ?_
                    refine VO.kp [125, 243, 235, 234, 0] [(125, m144), (243, mone g142 (.cells [Value.int .i64 (max 1 x138.1 + pickI x139.2.1 3), Value.int .i64 (((all.length : Nat) : Int) + 1), Value.slice q139_A5 (x139.2.2.2.2.2.length) (q139_c5)].toArray 42 (0, 0))), (235, sure_m), (234, all_m), (0, wm W)] ?_
                    refine VO.k15 0 2 3 8 9 10 11 12 13 14 15 16 17 57 62 ?_
                    refine VC.seq ?_
                    refine VC.rs ?_
                    refine VO.mv ?_
                    refine VO.y rfl (.eql rfl rfl) ?_
                    refine VO.k16 0 2 3 8 9 10 11 12 13 14 15 16 17 57 62 82 ?_
                    refine VC.cond rfl (fun hc148 => ?_) (fun hc148 => ?_)
                    · -- FFFTFTFJATTT
                      refine VC.rs ?_
                      refine VO.mv ?_
                      refine VO.y rfl (.ldA 243 rfl tk42 rfl (cellsAt_one rfl rfl)) ?_
                      refine VO.bsl (cs := [Value.int .i64 (max 1 x138.1 + pickI x139.2.1 3), Value.int .i64 (((all.length : Nat) : Int) + 1), Value.slice q139_A5 (x139.2.2.2.2.2.length) (q139_c5)]) 250 rfl rfl tsl25 tz42 rfl rfl (fun g149 => ?_)
                      obtain ⟨mo151, cs151, hM151, hA151, hC151⟩ := h_all
                      refine VO.app 234 rfl rfl rfl tsl25 tz42 rfl rfl hM151 hA151 (.row 250 _ _ _ 1 1 _ _ Try.underlying25 rfl (cellsAt_one rfl rfl)) (by simp [Value.oneCell']) (by simp only [maxLen]; (exact fin1_walKeeps_ok)) (by exact fin1_walKeeps_ok) (by decide) (fun v151 m151 hN151 => ?_)
                      have ho151 : OwnL TCommit m151 (wm W) v151 (all ++ [(max 1 x138.1 + pickI x139.2.1 3, ((all.length : Nat) : Int) + 1, x139.2.2.2.2.2)]) := OwnL.one hC151 hN151 (mk_Commit (m := (wm W)) (max 1 x138.1 + pickI x139.2.1 3) (((all.length : Nat) : Int) + 1) x139.2.2.2.2.2 (by simp only [inK]; (exact fin1_walKeeps_ok)) (by simp only [inK]; (exact fin1_walKeeps_ok)) (Rd.mono q139_5 (mle_refl _)))
                      obtain ⟨A151, c151, rfl, l151, k151⟩ := ho151.slice
                      simp only [maxLen] at k151
                      refine VO.as ?_
                      refine VO.k16 0 2 3 8 9 10 11 12 13 14 15 16 17 57 62 82 ?_
                      refine VC.exit ?_
                      refine outE ?_
                      refine outBE rfl ?_
                      refine outE ?_
                      refine outE ?_
                      refine outBB ?_
                      exact outN (hJ2 ⟨(wApp w_0 w_1 w_2 (max 1 x138.1 + pickI x139.2.1 3, ((all.length : Nat) : Int) + 1, x139.2.2.2.2.2)).1.1, (wApp w_0 w_1 w_2 (max 1 x138.1 + pickI x139.2.1 3, ((all.length : Nat) : Int) + 1, x139.2.2.2.2.2)).1.2.1, (wApp w_0 w_1 w_2 (max 1 x138.1 + pickI x139.2.1 3, ((all.length : Nat) : Int) + 1, x139.2.2.2.2.2)).1.2.2, endsC (wApp w_0 w_1 w_2 (max 1 x138.1 + pickI x139.2.1 3, ((all.length : Nat) : Int) + 1, x139.2.2.2.2.2)).1.2.2, m144, all ++ [(max 1 x138.1 + pickI x139.2.1 3, ((all.length : Nat) : Int) + 1, x139.2.2.2.2.2)], A151, c151, m151, sure, sure_A, sure_c, sure_m⟩ _ _ ⟨by first | exact kl_kp hk | exact kl_app6 hk hb hc (by assumption) | exact (kl_appSync hk hb hc (by assumption) (by assumption)).2 (by assumption), by first | omega | (simp only [List.length_append, List.length_cons, List.length_nil]; omega), by (dsimp only; omega), ho151, h_sure, w144_0⟩ ⟨⟨rfl, rfl, rfl, rfl, rfl, rfl, rfl, trivial⟩, fun _ h => Inv.sub (Inv.num (Inv.num h 234 127 rfl) 235 128 rfl) [125, 128, 127, 0]⟩)
                    · -- FFFTFTFJATTF
                      refine VC.skip ?_
                      refine outN ?_
                      refine VC.seq ?_
                      refine VC.rs ?_
                      refine VO.mv ?_
                      refine VO.y rfl (.eql rfl rfl) ?_
                      refine VO.k17 0 2 3 8 9 10 11 12 13 14 15 16 17 57 62 82 88 ?_
                      refine VC.cond rfl (fun hc152 => ?_) (fun hc152 => ?_)
                      · -- FFFTFTFJATTFT
                        refine VC.rs ?_
                        refine VO.mv ?_
                        refine VO.y rfl (.ldA 243 rfl tk42 rfl (cellsAt_one rfl rfl)) ?_
                        refine VO.bsl (cs := [Value.int .i64 (max 1 x138.1 + pickI x139.2.1 3), Value.int .i64 (((all.length : Nat) : Int) + 1), Value.slice q139_A5 (x139.2.2.2.2.2.length) (q139_c5)]) 254 rfl rfl tsl25 tz42 rfl rfl (fun g153 => ?_)
                        obtain ⟨mo155, cs155, hM155, hA155, hC155⟩ := h_all
                        refine VO.app 234 rfl rfl rfl tsl25 tz42 rfl rfl hM155 hA155 (.row 254 _ _ _ 1 1 _ _ Try.underlying25 rfl (cellsAt_one rfl rfl)) (by simp [Value.oneCell']) (by simp only [maxLen]; (exact fin1_walKeeps_ok)) (by exact fin1_walKeeps_ok) (by decide) (fun v155 m155 hN155 => ?_)
                        have ho155 : OwnL TCommit m155 (wm W) v155 (all ++ [(max 1 x138.1 + pickI x139.2.1 3, ((all.length : Nat) : Int) + 1, x139.2.2.2.2.2)]) := OwnL.one hC155 hN155 (mk_Commit (m := (wm W)) (max 1 x138.1 + pickI x139.2.1 3) (((all.length : Nat) : Int) + 1) x139.2.2.2.2.2 (by simp only [inK]; (exact fin1_walKeeps_ok)) (by simp only [inK]; (exact fin1_walKeeps_ok)) (Rd.mono q139_5 (mle_refl _)))
                        obtain ⟨A155, c155, rfl, l155, k155⟩ := ho155.slice
                        simp only [maxLen] at k155
                        refine VO.as ?_
                        refine VO.kp [125, 243, 235, 234, 0] [(125, m144), (243, mone g142 (.cells [Value.int .i64 (max 1 x138.1 + pickI x139.2.1 3), Value.int .i64 (((all.length : Nat) : Int) + 1), Value.slice q139_A5 (x139.2.2.2.2.2.length) (q139_c5)].toArray 42 (0, 0))), (235, sure_m), (234, m155), (0, wm W)] ?_
                        refine VO.k17 0 2 3 8 9 10 11 12 13 14 15 16 17 57 62 82 88 ?_
                        refine VC.exit ?_
                        refine outE ?_
                        refine outBB ?_
                        refine outN ?_
                        refine VC.reg ?_
                        refine VO.mv ?_
                        refine VO.y rfl (.add (c := ((i + 1 : Nat) : Int)) rfl rfl (by omega) ⟨by exact fin1_walKeeps_ok, by exact fin1_walKeeps_ok⟩) ?_
                        refine VO.as ?_
                        refine VO.k17 0 2 3 8 9 10 11 12 13 14 15 16 17 57 62 82 88 ?_
                        exact outN ⟨⟨i + 1, (wApp w_0 w_1 w_2 (max 1 x138.1 + pickI x139.2.1 3, ((all.length : Nat) : Int) + 1, x139.2.2.2.2.2)).1.1, (wApp w_0 w_1 w_2 (max 1 x138.1 + pickI x139.2.1 3, ((all.length : Nat) : Int) + 1, x139.2.2.2.2.2)).1.2.1, (wApp w_0 w_1 w_2 (max 1 x138.1 + pickI x139.2.1 3, ((all.length : Nat) : Int) + 1, x139.2.2.2.2.2)).1.2.2, endsC (wApp w_0 w_1 w_2 (max 1 x138.1 + pickI x139.2.1 3, ((all.length : Nat) : Int) + 1, x139.2.2.2.2.2)).1.2.2, m144, all ++ [(max 1 x138.1 + pickI x139.2.1 3, ((all.length : Nat) : Int) + 1, x139.2.2.2.2.2)], A155, c155, m155, sure, sure_A, sure_c, sure_m⟩, ⟨by (dsimp only; omega), by first | exact (kl_app0 hk hb hc (by assumption)).1 | exact ((kl_appSync hk hb hc (by assumption) (by assumption)).1 (by assumption)).1, by first | exact (kl_app0 hk hb hc (by assumption)).2.1 | exact ((kl_appSync hk hb hc (by assumption) (by assumption)).1 (by assumption)).2.1, by first | exact (kl_app0 hk hb hc (by assumption)).2.2 | exact ((kl_appSync hk hb hc (by assumption) (by assumption)).1 (by assumption)).2.2, by first | (rw [(kl_app0 hk hb hc (by assumption)).2.2]; done) | (rw [((kl_appSync hk hb hc (by assumption) (by assumption)).1 (by assumption)).2.2]; done), by (dsimp only; omega), by (simp only [List.length_append, List.length_cons, List.length_nil]; omega), ho155, h_sure, w144_0⟩, by (dsimp only; omega), ⟨⟨rfl, rfl, rfl, rfl, rfl, rfl, rfl, rfl, rfl, rfl, trivial⟩, fun _ h => Inv.sub h [235, 234, 125, 0]⟩⟩
                      · -- FFFTFTFJATTFF
                        refine VC.skip ?_
                        refine outN ?_
                        refine VC.seq ?_
                        refine VC.rs ?_
                        refine VO.mv ?_
                        refine VO.call 125 rfl fnOk24 rfl rfl (fun W hW => wSync_ok W (hW.at (i := 125) rfl) w144_0 (by assumption) (by exact fin1_walKeeps_ok) (by assumption) (by first | assumption | rfl)) (fun v156 m156 hv156 => ?_)
                        try dsimp only at hv156
                        obtain ⟨rfl, w156_0⟩ := hv156
                        have hfa157 := (wsync_ok (br := ((wApp w_0 w_1 w_2 (max 1 x138.1 + pickI x139.2.1 3, ((all.length : Nat) : Int) + 1, x139.2.2.2.2.2)).1.2.1)) (l := ((wApp w_0 w_1 w_2 (max 1 x138.1 + pickI x139.2.1 3, ((all.length : Nat) : Int) + 1, x139.2.2.2.2.2)).1.2.2)) (show okD ((wApp w_0 w_1 w_2 (max 1 x138.1 + pickI x139.2.1 3, ((all.length : Nat) : Int) + 1, x139.2.2.2.2.2)).1.1) by assumption))
                        have hfa158 := (wsync_w (br := ((wApp w_0 w_1 w_2 (max 1 x138.1 + pickI x139.2.1 3, ((all.length : Nat) : Int) + 1, x139.2.2.2.2.2)).1.2.1)) (l := ((wApp w_0 w_1 w_2 (max 1 x138.1 + pickI x139.2.1 3, ((all.length : Nat) : Int) + 1, x139.2.2.2.2.2)).1.2.2)) (show okD ((wApp w_0 w_1 w_2 (max 1 x138.1 + pickI x139.2.1 3, ((all.length : Nat) : Int) + 1, x139.2.2.2.2.2)).1.1) by assumption))
                        have hfa159 := (wsync_l (d := ((wApp w_0 w_1 w_2 (max 1 x138.1 + pickI x139.2.1 3, ((all.length : Nat) : Int) + 1, x139.2.2.2.2.2)).1.1)) (br := ((wApp w_0 w_1 w_2 (max 1 x138.1 + pickI x139.2.1 3, ((all.length : Nat) : Int) + 1, x139.2.2.2.2.2)).1.2.1)) (l := ((wApp w_0 w_1 w_2 (max 1 x138.1 + pickI x139.2.1 3, ((all.length : Nat) : Int) + 1, x139.2.2.2.2.2)).1.2.2)))
                        refine VO.y rfl (.neq rfl rfl) ?_
                        refine VO.kp [125, 243, 235, 234, 0] [(125, m156), (243, mone g142 (.cells [Value.int .i64 (max 1 x138.1 + pickI x139.2.1 3), Value.int .i64 (((all.length : Nat) : Int) + 1), Value.slice q139_A5 (x139.2.2.2.2.2.length) (q139_c5)].toArray 42 (0, 0))), (235, sure_m), (234, all_m), (0, wm W)] ?_
                        refine VO.k18 0 2 3 8 9 10 11 12 13 14 15 16 17 57 62 82 88 95 ?_
                        refine VC.cond rfl (fun hc160 => ?_) (fun hc160 => ?_)
                        · -- FFFTFTFJATTFFT
                          refine VC.exit ?_
                          refine outE ?_
                          refine outBE rfl ?_
                          refine outE ?_
                          refine outE ?_
                          refine outBB ?_
                          exact outN (hJ2 ⟨(wSync ((wApp w_0 w_1 w_2 (max 1 x138.1 + pickI x139.2.1 3, ((all.length : Nat) : Int) + 1, x139.2.2.2.2.2)).1.1) ((wApp w_0 w_1 w_2 (max 1 x138.1 + pickI x139.2.1 3, ((all.length : Nat) : Int) + 1, x139.2.2.2.2.2)).1.2.1) ((wApp w_0 w_1 w_2 (max 1 x138.1 + pickI x139.2.1 3, ((all.length : Nat) : Int) + 1, x139.2.2.2.2.2)).1.2.2)).1.1, (wSync ((wApp w_0 w_1 w_2 (max 1 x138.1 + pickI x139.2.1 3, ((all.length : Nat) : Int) + 1, x139.2.2.2.2.2)).1.1) ((wApp w_0 w_1 w_2 (max 1 x138.1 + pickI x139.2.1 3, ((all.length : Nat) : Int) + 1, x139.2.2.2.2.2)).1.2.1) ((wApp w_0 w_1 w_2 (max 1 x138.1 + pickI x139.2.1 3, ((all.length : Nat) : Int) + 1, x139.2.2.2.2.2)).1.2.2)).1.2.1, (wSync ((wApp w_0 w_1 w_2 (max 1 x138.1 + pickI x139.2.1 3, ((all.length : Nat) : Int) + 1, x139.2.2.2.2.2)).1.1) ((wApp w_0 w_1 w_2 (max 1 x138.1 + pickI x139.2.1 3, ((all.length : Nat) : Int) + 1, x139.2.2.2.2.2)).1.2.1) ((wApp w_0 w_1 w_2 (max 1 x138.1 + pickI x139.2.1 3, ((all.length : Nat) : Int) + 1, x139.2.2.2.2.2)).1.2.2)).1.2.2, endsC (wSync ((wApp w_0 w_1 w_2 (max 1 x138.1 + pickI x139.2.1 3, ((all.length : Nat) : Int) + 1, x139.2.2.2.2.2)).1.1) ((wApp w_0 w_1 w_2 (max 1 x138.1 + pickI x139.2.1 3, ((all.length : Nat) : Int) + 1, x139.2.2.2.2.2)).1.2.1) ((wApp w_0 w_1 w_2 (max 1 x138.1 + pickI x139.2.1 3, ((all.length : Nat) : Int) + 1, x139.2.2.2.2.2)).1.2.2)).1.2.2, m156, all, (some ⟨gg138, oo138, none⟩), all_c, all_m, sure, sure_A, sure_c, sure_m⟩ _ _ ⟨by first | exact kl_kp hk | exact kl_app6 hk hb hc (by assumption) | exact (kl_appSync hk hb hc (by assumption) (by assumption)).2 (by assumption), by first | omega | (simp only [List.length_append, List.length_cons, List.length_nil]; omega), by (dsimp only; omega), h_all, h_sure, w156_0⟩ ⟨⟨rfl, rfl, rfl, rfl, rfl, rfl, rfl, trivial⟩, fun _ h => Inv.sub (Inv.num (Inv.num h 234 127 rfl) 235 128 rfl) [125, 128, 127, 0]⟩)
                        · -- FFFTFTFJATTFFF
                          refine VC.skip ?_
                          refine outN ?_
                          refine VC.reg ?_
                          refine VO.mv ?_
                          refine VO.callN 261 rfl fnOk25 rfl (fun W hW => CopyCommits_ok W (OwnL.rd h_all (hW.at (i := 234) rfl) (hW.at (i := 0) rfl)) (by exact fin1_walKeeps_ok) (by exact fun c hc => (okL_rooms hk.2.1 c hc).1)) (fun v161 m161 hv161 => ?_)
                          obtain ⟨s161_0, rfl, f161_0⟩ := hv161
                          obtain ⟨A161_0, c161_0, eq161_0, l161_0, k161_0⟩ := f161_0.slice
                          subst eq161_0
                          simp only [maxLen] at k161_0
                          refine VO.as ?_
                          refine VO.k18 0 2 3 8 9 10 11 12 13 14 15 16 17 57 62 82 88 95 ?_
                          refine outBN ?_
                          refine outN ?_
                          refine VC.reg ?_
                          refine VO.mv ?_
                          refine VO.y rfl (.add (c := ((i + 1 : Nat) : Int)) rfl rfl (by omega) ⟨by exact fin1_walKeeps_ok, by exact fin1_walKeeps_ok⟩) ?_
                          refine VO.as ?_
                          refine VO.k18 0 2 3 8 9 10 11 12 13 14 15 16 17 57 62 82 88 95 ?_
                          exact outN ⟨⟨i + 1, (wSync ((wApp w_0 w_1 w_2 (max 1 x138.1 + pickI x139.2.1 3, ((all.length : Nat) : Int) + 1, x139.2.2.2.2.2)).1.1) ((wApp w_0 w_1 w_2 (max 1 x138.1 + pickI x139.2.1 3, ((all.length : Nat) : Int) + 1, x139.2.2.2.2.2)).1.2.1) ((wApp w_0 w_1 w_2 (max 1 x138.1 + pickI x139.2.1 3, ((all.length : Nat) : Int) + 1, x139.2.2.2.2.2)).1.2.2)).1.1, (wSync ((wApp w_0 w_1 w_2 (max 1 x138.1 + pickI x139.2.1 3, ((all.length : Nat) : Int) + 1, x139.2.2.2.2.2)).1.1) ((wApp w_0 w_1 w_2 (max 1 x138.1 + pickI x139.2.1 3, ((all.length : Nat) : Int) + 1, x139.2.2.2.2.2)).1.2.1) ((wApp w_0 w_1 w_2 (max 1 x138.1 + pickI x139.2.1 3, ((all.length : Nat) : Int) + 1, x139.2.2.2.2.2)).1.2.2)).1.2.1, (wSync ((wApp w_0 w_1 w_2 (max 1 x138.1 + pickI x139.2.1 3, ((all.length : Nat) : Int) + 1, x139.2.2.2.2.2)).1.1) ((wApp w_0 w_1 w_2 (max 1 x138.1 + pickI x139.2.1 3, ((all.length : Nat) : Int) + 1, x139.2.2.2.2.2)).1.2.1) ((wApp w_0 w_1 w_2 (max 1 x138.1 + pickI x139.2.1 3, ((all.length : Nat) : Int) + 1, x139.2.2.2.2.2)).1.2.2)).1.2.2, endsC (wSync ((wApp w_0 w_1 w_2 (max 1 x138.1 + pickI x139.2.1 3, ((all.length : Nat) : Int) + 1, x139.2.2.2.2.2)).1.1) ((wApp w_0 w_1 w_2 (max 1 x138.1 + pickI x139.2.1 3, ((all.length : Nat) : Int) + 1, x139.2.2.2.2.2)).1.2.1) ((wApp w_0 w_1 w_2 (max 1 x138.1 + pickI x139.2.1 3, ((all.length : Nat) : Int) + 1, x139.2.2.2.2.2)).1.2.2)).1.2.2, m156, all, (some ⟨gg138, oo138, none⟩), all_c, all_m, all, A161_0, c161_0, m161⟩, ⟨by (dsimp only; omega), by first | exact (kl_app0 hk hb hc (by assumption)).1 | exact ((kl_appSync hk hb hc (by assumption) (by assumption)).1 (by assumption)).1, by first | exact (kl_app0 hk hb hc (by assumption)).2.1 | exact ((kl_appSync hk hb hc (by assumption) (by assumption)).1 (by assumption)).2.1, by first | exact (kl_app0 hk hb hc (by assumption)).2.2 | exact ((kl_appSync hk hb hc (by assumption) (by assumption)).1 (by assumption)).2.2, by first | (rw [(kl_app0 hk hb hc (by assumption)).2.2]; done) | (rw [((kl_appSync hk hb hc (by assumption) (by assumption)).1 (by assumption)).2.2]; done), by (dsimp only; omega), by (simp only [List.length_append, List.length_cons, List.length_nil]; omega), h_all, f161_0, w156_0⟩, by (dsimp only; omega), ⟨⟨rfl, rfl, rfl, rfl, rfl, rfl, rfl, rfl, rfl, rfl, trivial⟩, fun _ h => Inv.sub (Inv.num h 261 235 rfl) [235, 234, 125, 0]⟩⟩
                  · -- FFFTFTFJATF
                    refine VC.skip ?_
                    refine outN ?_
                    refine VC.rs ?_
                    refine VO.mv ?_
                    refine VO.mv ?_
                    obtain ⟨x162, hx162⟩ : ∃ z_, (d0)[i]? = some z_ := ⟨_, List.getElem?_eq_getElem (by exact fin1_walKeeps_ok)⟩
                    obtain ⟨gg162, oo162, ec162, ea162, hce162, hre162⟩ := h0.elem hx162
                    cases ea162
                    obtain ⟨q162_A5, q162_c5, rfl, q162_0, q162_1, q162_2, q162_3, q162_4, q162_5⟩ := open_law12Act (x0 := x162.1) (x1 := x162.2.1) (x2 := x162.2.2.1) (x3 := x162.2.2.2.1) (x4 := x162.2.2.2.2.1) (x5 := x162.2.2.2.2.2) hre162
                    simp only [inK] at q162_0
                    simp only [inK] at q162_1
                    simp only [inK] at q162_2
                    simp only [inK] at q162_3
                    simp only [inK] at q162_4
                    have q162_r5 := Rd.room q162_5
                    refine VO.y rfl (.ixI i rfl rfl tsl46 rfl (by exact fin1_walKeeps_ok)) ?_
                    refine VO.y rfl (.ldA 0 rfl tk50 rfl hce162) ?_
                    refine VO.mv ?_
                    refine VO.mv ?_
                    refine VO.y rfl (.lenS rfl tsl25) ?_
                    refine VO.callN 263 rfl fnOk23 rfl (fun W hW => next12_ok W (Rd.mono hre162 (hW.at (i := 0) rfl)) 0 (by simp only [inK]; (exact fin1_walKeeps_ok)) ((all.length : Nat) : Int) (by simp only [inK]; (exact fin1_walKeeps_ok)) (by exact fin1_walKeeps_ok)) (fun v163 m163 hv163 => ?_)
                    try simp only [List.getD_cons_succ, List.getD_cons_zero] at hv163
                    subst hv163
                    have hfa164 := pickI_bounds x162.2.1 3 (by omega)
                    refine VO.alloc 266 rfl tz42 (fun g165 => ?_)
                    refine VO.store (k := 3) (c' := [Value.int .i64 (max 1 0 + pickI x162.2.1 3), Value.int .i64 (((all.length : Nat) : Int) + 1), Value.slice q162_A5 (x162.2.2.2.2.2.length) (q162_c5)]) 266 rfl rfl (.inl tk42) rfl rfl rfl rfl rfl ?_
                    refine VO.k14 0 2 3 8 9 10 11 12 13 14 15 16 57 62 ?_
                    refine VC.rs ?_
                    refine VO.mv ?_
                    refine VO.y rfl (.ldA 266 rfl tk42 rfl (cellsAt_one rfl rfl)) ?_
                    refine VO.call 125 rfl fnOk17 rfl rfl (fun W hW => wApp_ok W (hW.at (i := 125) rfl) h_w (mk_Commit (m := mout (wm W) (w_m)) (max 1 0 + pickI x162.2.1 3) (((all.length : Nat) : Int) + 1) x162.2.2.2.2.2 (by simp only [inK]; (exact fin1_walKeeps_ok)) (by simp only [inK]; (exact fin1_walKeeps_ok)) (Rd.mono q162_5 (hW.out (i := 125) (j := 0) rfl rfl))) (by assumption) (by exact fin1_walKeeps_ok) (by assumption) (by first | assumption | rfl)) (fun v167 m167 hv167 => ?_)
                    try dsimp only at hv167
                    obtain ⟨rfl, w167_0⟩ := hv167
                    have hfa168 := (app_ok (br := w_1) (l := w_2) (c := (max 1 0 + pickI x162.2.1 3, ((all.length : Nat) : Int) + 1, x162.2.2.2.2.2)) (show okD w_0 by assumption))
                    have hfa169 := (app_w (br := w_1) (l := w_2) (c := (max 1 0 + pickI x162.2.1 3, ((all.length : Nat) : Int) + 1, x162.2.2.2.2.2)) (show okD w_0 by assumption))
                    have hfa170 := (app_l (d := w_0) (br := w_1) (c := (max 1 0 + pickI x162.2.1 3, ((all.length : Nat) : Int) + 1, x162.2.2.2.2.2)) (show okL w_2 by assumption))
                    refine VO.as ?_
                    refine VO.k15 0 2 3 8 9 10 11 12 13 14 15 16 17 57 62 ?_
                    refine VC.seq ?_
                    refine VC.rs ?_
                    refine VO.mv ?_
                    refine VO.y rfl (.eql rfl rfl) ?_
                    refine VO.kp [125, 266, 235, 234, 0] [(125, m167), (266, mone g165 (.cells [Value.int .i64 (max 1 0 + pickI x162.2.1 3), Value.int .i64 (((all.length : Nat) : Int) + 1), Value.slice q162_A5 (x162.2.2.2.2.2.length) (q162_c5)].toArray 42 (0, 0))), (235, sure_m), (234, all_m), (0, wm W)] ?_
                    refine VO.k16 0 2 3 8 9 10 11 12 13 14 15 16 17 57 62 82 ?_
                    refine VC.cond rfl (fun hc171 => ?_) (fun hc171 => ?_)
                    · -- FFFTFTFJATFT
                      refine VC.rs ?_
                      refine VO.mv ?_
                      refine VO.y rfl (.ldA 266 rfl tk42 rfl (cellsAt_one rfl rfl)) ?_
                      refine VO.bsl (cs := [Value.int .i64 (max 1 0 + pickI x162.2.1 3), Value.int .i64 (((all.length : Nat) : Int) + 1), Value.slice q162_A5 (x162.2.2.2.2.2.length) (q162_c5)]) 273 rfl rfl tsl25 tz42 rfl rfl (fun g172 => ?_)
                      obtain ⟨mo174, cs174, hM174, hA174, hC174⟩ := h_all
                      refine VO.app 234 rfl rfl rfl tsl25 tz42 rfl rfl hM174 hA174 (.row 273 _ _ _ 1 1 _ _ Try.underlying25 rfl (cellsAt_one rfl rfl)) (by simp [Value.oneCell']) (by simp only [maxLen]; (exact fin1_walKeeps_ok)) (by exact fin1_walKeeps_ok) (by decide) (fun v174 m174 hN174 => ?_)
                      have ho174 : OwnL TCommit m174 (wm W) v174 (all ++ [(max 1 0 + pickI x162.2.1 3, ((all.length : Nat) : Int) + 1, x162.2.2.2.2.2)]) := OwnL.one hC174 hN174 (mk_Commit (m := (wm W)) (max 1 0 + pickI x162.2.1 3) (((all.length : Nat) : Int) + 1) x162.2.2.2.2.2 (by simp only [inK]; (exact fin1_walKeeps_ok)) (by simp only [inK]; (exact fin1_walKeeps_ok)) (Rd.mono q162_5 (mle_refl _)))
                      obtain ⟨A174, c174, rfl, l174, k174⟩ := ho174.slice
                      simp only [maxLen] at k174
                      refine VO.as ?_
                      refine VO.k16 0 2 3 8 9 10 11 12 13 14 15 16 17 57 62 82 ?_
                      refine VC.exit ?_
                      refine outE ?_
                      refine outBE rfl ?_
                      refine outE ?_
                      refine outE ?_
                      refine outBB ?_
                      exact outN (hJ2 ⟨(wApp w_0 w_1 w_2 (max 1 0 + pickI x162.2.1 3, ((all.length : Nat) : Int) + 1, x162.2.2.2.2.2)).1.1, (wApp w_0 w_1 w_2 (max 1 0 + pickI x162.2.1 3, ((all.length : Nat) : Int) + 1, x162.2.2.2.2.2)).1.2.1, (wApp w_0 w_1 w_2 (max 1 0 + pickI x162.2.1 3, ((all.length : Nat) : Int) + 1, x162.2.2.2.2.2)).1.2.2, endsC (wApp w_0 w_1 w_2 (max 1 0 + pickI x162.2.1 3, ((all.length : Nat) : Int) + 1, x162.2.2.2.2.2)).1.2.2, m167, all ++ [(max 1 0 + pickI x162.2.1 3, ((all.length : Nat) : Int) + 1, x162.2.2.2.2.2)], A174, c174, m174, sure, sure_A, sure_c, sure_m⟩ _ _ ⟨by first | exact kl_kp hk | exact kl_app6 hk hb hc (by assumption) | exact (kl_appSync hk hb hc (by assumption) (by assumption)).2 (by assumption), by first | omega | (simp only [List.length_append, List.length_cons, List.length_nil]; omega), by (dsimp only; omega), ho174, h_sure, w167_0⟩ ⟨⟨rfl, rfl, rfl, rfl, rfl, rfl, rfl, trivial⟩, fun _ h => Inv.sub (Inv.num (Inv.num h 234 127 rfl) 235 128 rfl) [125, 128, 127, 0]⟩)
                    · -- FFFTFTFJATFF
                      refine VC.skip ?_
                      refine outN ?_
                      refine VC.seq ?_
                      refine VC.rs ?_
                      refine VO.mv ?_
                      refine VO.y rfl (.eql rfl rfl) ?_
                      refine VO.k17 0 2 3 8 9 10 11 12 13 14 15 16 17 57 62 82 88 ?_
                      refine VC.cond rfl (fun hc175 => ?_) (fun hc175 => ?_)
                      · -- FFFTFTFJATFFT
                        refine VC.rs ?_
                        refine VO.mv ?_
                        refine VO.y rfl (.ldA 266 rfl tk42 rfl (cellsAt_one rfl rfl)) ?_
                        refine VO.bsl (cs := [Value.int .i64 (max 1 0 + pickI x162.2.1 3), Value.int .i64 (((all.length : Nat) : Int) + 1), Value.slice q162_A5 (x162.2.2.2.2.2.length) (q162_c5)]) 277 rfl rfl tsl25 tz42 rfl rfl (fun g176 => ?_)
                        obtain ⟨mo178, cs178, hM178, hA178, hC178⟩ := h_all
                        refine VO.app 234 rfl rfl rfl tsl25 tz42 rfl rfl hM178 hA178 (.row 277 _ _ _ 1 1 _ _ Try.underlying25 rfl (cellsAt_one rfl rfl)) (by simp [Value.oneCell']) (by simp only [maxLen]; (exact fin1_walKeeps_ok)) (by exact fin1_walKeeps_ok) (by decide) (fun v178 m178 hN178 => ?_)
                        have ho178 : OwnL TCommit m178 (wm W) v178 (all ++ [(max 1 0 + pickI x162.2.1 3, ((all.length : Nat) : Int) + 1, x162.2.2.2.2.2)]) := OwnL.one hC178 hN178 (mk_Commit (m := (wm W)) (max 1 0 + pickI x162.2.1 3) (((all.length : Nat) : Int) + 1) x162.2.2.2.2.2 (by simp only [inK]; (exact fin1_walKeeps_ok)) (by simp only [inK]; (exact fin1_walKeeps_ok)) (Rd.mono q162_5 (mle_refl _)))
                        obtain ⟨A178, c178, rfl, l178, k178⟩ := ho178.slice
                        simp only [maxLen] at k178
                        refine VO.as ?_
                        refine VO.k17 0 2 3 8 9 10 11 12 13 14 15 16 17 57 62 82 88 ?_
                        refine VC.exit ?_
                        refine outE ?_
                        refine outBB ?_
                        refine outN ?_
                        refine VC.reg ?_
                        refine VO.mv ?_
                        refine VO.y rfl (.add (c := ((i + 1 : Nat) : Int)) rfl rfl (by omega) ⟨by exact fin1_walKeeps_ok, by exact fin1_walKeeps_ok⟩) ?_
                        refine VO.as ?_
                        refine VO.kp [125, 266, 235, 234, 0] [(125, m167), (266, mone g165 (.cells [Value.int .i64 (max 1 0 + pickI x162.2.1 3), Value.int .i64 (((all.length : Nat) : Int) + 1), Value.slice q162_A5 (x162.2.2.2.2.2.length) (q162_c5)].toArray 42 (0, 0))), (235, sure_m), (234, m178), (0, wm W)] ?_
                        refine VO.k17 0 2 3 8 9 10 11 12 13 14 15 16 17 57 62 82 88 ?_
                        exact outN ⟨⟨i + 1, (wApp w_0 w_1 w_2 (max 1 0 + pickI x162.2.1 3, ((all.length : Nat) : Int) + 1, x162.2.2.2.2.2)).1.1, (wApp w_0 w_1 w_2 (max 1 0 + pickI x162.2.1 3, ((all.length : Nat) : Int) + 1, x162.2.2.2.2.2)).1.2.1, (wApp w_0 w_1 w_2 (max 1 0 + pickI x162.2.1 3, ((all.length : Nat) : Int) + 1, x162.2.2.2.2.2)).1.2.2, endsC (wApp w_0 w_1 w_2 (max 1 0 + pickI x162.2.1 3, ((all.length : Nat) : Int) + 1, x162.2.2.2.2.2)).1.2.2, m167, all ++ [(max 1 0 + pickI x162.2.1 3, ((all.length : Nat) : Int) + 1, x162.2.2.2.2.2)], A178, c178, m178, sure, sure_A, sure_c, sure_m⟩, ⟨by (dsimp only; omega), by first | exact (kl_app0 hk hb hc (by assumption)).1 | exact ((kl_appSync hk hb hc (by assumption) (by assumption)).1 (by assumption)).1, by first | exact (kl_app0 hk hb hc (by assumption)).2.1 | exact ((kl_appSync hk hb hc (by assumption) (by assumption)).1 (by assumption)).2.1, by first | exact (kl_app0 hk hb hc (by assumption)).2.2 | exact ((kl_appSync hk hb hc (by assumption) (by assumption)).1 (by assumption)).2.2, by first | (rw [(kl_app0 hk hb hc (by assumption)).2.2]; done) | (rw [((kl_appSync hk hb hc (by assumption) (by assumption)).1 (by assumption)).2.2]; done), by (dsimp only; omega), by (simp only [List.length_append, List.length_cons, List.length_nil]; omega), ho178, h_sure, w167_0⟩, by (dsimp only; omega), ⟨⟨rfl, rfl, rfl, rfl, rfl, rfl, rfl, rfl, rfl, rfl, trivial⟩, fun _ h => Inv.sub h [235, 234, 125, 0]⟩⟩
                      · -- FFFTFTFJATFFF
                        refine VC.skip ?_
                        refine outN ?_
                        refine VC.seq ?_
                        refine VC.rs ?_
                        refine VO.mv ?_
                        refine VO.call 125 rfl fnOk24 rfl rfl (fun W hW => wSync_ok W (hW.at (i := 125) rfl) w167_0 (by assumption) (by exact fin1_walKeeps_ok) (by assumption) (by first | assumption | rfl)) (fun v179 m179 hv179 => ?_)
                        try dsimp only at hv179
                        obtain ⟨rfl, w179_0⟩ := hv179
                        have hfa180 := (wsync_ok (br := ((wApp w_0 w_1 w_2 (max 1 0 + pickI x162.2.1 3, ((all.length : Nat) : Int) + 1, x162.2.2.2.2.2)).1.2.1)) (l := ((wApp w_0 w_1 w_2 (max 1 0 + pickI x162.2.1 3, ((all.length : Nat) : Int) + 1, x162.2.2.2.2.2)).1.2.2)) (show okD ((wApp w_0 w_1 w_2 (max 1 0 + pickI x162.2.1 3, ((all.length : Nat) : Int) + 1, x162.2.2.2.2.2)).1.1) by assumption))
                        have hfa181 := (wsync_w (br := ((wApp w_0 w_1 w_2 (max 1 0 + pickI x162.2.1 3, ((all.length : Nat) : Int) + 1, x162.2.2.2.2.2)).1.2.1)) (l := ((wApp w_0 w_1 w_2 (max 1 0 + pickI x162.2.1 3, ((all.length : Nat) : Int) + 1, x162.2.2.2.2.2)).1.2.2)) (show okD ((wApp w_0 w_1 w_2 (max 1 0 + pickI x162.2.1 3, ((all.length : Nat) : Int) + 1, x162.2.2.2.2.2)).1.1) by assumption))
                        have hfa182 := (wsync_l (d := ((wApp w_0 w_1 w_2 (max 1 0 + pickI x162.2.1 3, ((all.length : Nat) : Int) + 1, x162.2.2.2.2.2)).1.1)) (br := ((wApp w_0 w_1 w_2 (max 1 0 + pickI x162.2.1 3, ((all.length : Nat) : Int) + 1, x162.2.2.2.2.2)).1.2.1)) (l := ((wApp w_0 w_1 w_2 (max 1 0 + pickI x162.2.1 3, ((all.length : Nat) : Int) + 1, x162.2.2.2.2.2)).1.2.2)))
                        refine VO.y rfl (.neq rfl rfl) ?_
                        refine VO.k18 0 2 3 8 9 10 11 12 13 14 15 16 17 57 62 82 88 95 ?_
                        refine VC.cond rfl (fun hc183 => ?_) (fun hc183 => ?_)
                        · -- FFFTFTFJATFFFT
                          refine VC.exit ?_
                          refine outE ?_
                          refine outBE rfl ?_
                          refine outE ?_
                          refine outE ?_
                          refine outBB ?_
                          exact outN (hJ2 ⟨(wSync ((wApp w_0 w_1 w_2 (max 1 0 + pickI x162.2.1 3, ((all.length : Nat) : Int) + 1, x162.2.2.2.2.2)).1.1) ((wApp w_0 w_1 w_2 (max 1 0 + pickI x162.2.1 3, ((all.length : Nat) : Int) + 1, x162.2.2.2.2.2)).1.2.1) ((wApp w_0 w_1 w_2 (max 1 0 + pickI x162.2.1 3, ((all.length : Nat) : Int) + 1, x162.2.2.2.2.2)).1.2.2)).1.1, (wSync ((wApp w_0 w_1 w_2 (max 1 0 + pickI x162.2.1 3, ((all.length : Nat) : Int) + 1, x162.2.2.2.2.2)).1.1) ((wApp w_0 w_1 w_2 (max 1 0 + pickI x162.2.1 3, ((all.length : Nat) : Int) + 1, x162.2.2.2.2.2)).1.2.1) ((wApp w_0 w_1 w_2 (max 1 0 + pickI x162.2.1 3, ((all.length : Nat) : Int) + 1, x162.2.2.2.2.2)).1.2.2)).1.2.1, (wSync ((wApp w_0 w_1 w_2 (max 1 0 + pickI x162.2.1 3, ((all.length : Nat) : Int) + 1, x162.2.2.2.2.2)).1.1) ((wApp w_0 w_1 w_2 (max 1 0 + pickI x162.2.1 3, ((all.length : Nat) : Int) + 1, x162.2.2.2.2.2)).1.2.1) ((wApp w_0 w_1 w_2 (max 1 0 + pickI x162.2.1 3, ((all.length : Nat) : Int) + 1, x162.2.2.2.2.2)).1.2.2)).1.2.2, endsC (wSync ((wApp w_0 w_1 w_2 (max 1 0 + pickI x162.2.1 3, ((all.length : Nat) : Int) + 1, x162.2.2.2.2.2)).1.1) ((wApp w_0 w_1 w_2 (max 1 0 + pickI x162.2.1 3, ((all.length : Nat) : Int) + 1, x162.2.2.2.2.2)).1.2.1) ((wApp w_0 w_1 w_2 (max 1 0 + pickI x162.2.1 3, ((all.length : Nat) : Int) + 1, x162.2.2.2.2.2)).1.2.2)).1.2.2, m179, all, all_A, all_c, all_m, sure, sure_A, sure_c, sure_m⟩ _ _ ⟨by first | exact kl_kp hk | exact kl_app6 hk hb hc (by assumption) | exact (kl_appSync hk hb hc (by assumption) (by assumption)).2 (by assumption), by first | omega | (simp only [List.length_append, List.length_cons, List.length_nil]; omega), by (dsimp only; omega), h_all, h_sure, w179_0⟩ ⟨⟨rfl, rfl, rfl, rfl, rfl, rfl, rfl, trivial⟩, fun _ h => Inv.sub (Inv.num (Inv.num h 234 127 rfl) 235 128 rfl) [125, 128, 127, 0]⟩)
                        · -- FFFTFTFJATFFFF
                          refine VC.skip ?_
                          refine outN ?_
                          refine VC.reg ?_
                          refine VO.mv ?_
                          refine VO.callN 284 rfl fnOk25 rfl (fun W hW => CopyCommits_ok W (OwnL.rd h_all (hW.at (i := 234) rfl) (hW.at (i := 0) rfl)) (by exact fin1_walKeeps_ok) (by exact fun c hc => (okL_rooms hk.2.1 c hc).1)) (fun v184 m184 hv184 => ?_)
                          obtain ⟨s184_0, rfl, f184_0⟩ := hv184
                          obtain ⟨A184_0, c184_0, eq184_0, l184_0, k184_0⟩ := f184_0.slice
                          subst eq184_0
                          simp only [maxLen] at k184_0
                          refine VO.as ?_
                          refine VO.kp [284, 125, 266, 234, 0] [(284, m184), (125, m179), (266, mone g165 (.cells [Value.int .i64 (max 1 0 + pickI x162.2.1 3), Value.int .i64 (((all.length : Nat) : Int) + 1), Value.slice q162_A5 (x162.2.2.2.2.2.length) (q162_c5)].toArray 42 (0, 0))), (234, all_m), (0, wm W)] ?_
                          refine VO.k18 0 2 3 8 9 10 11 12 13 14 15 16 17 57 62 82 88 95 ?_
                          refine outBN ?_
                          refine outN ?_
                          refine VC.reg ?_
                          refine VO.mv ?_
                          refine VO.y rfl (.add (c := ((i + 1 : Nat) : Int)) rfl rfl (by omega) ⟨by exact fin1_walKeeps_ok, by exact fin1_walKeeps_ok⟩) ?_
                          refine VO.as ?_
                          refine VO.k18 0 2 3 8 9 10 11 12 13 14 15 16 17 57 62 82 88 95 ?_
                          exact outN ⟨⟨i + 1, (wSync ((wApp w_0 w_1 w_2 (max 1 0 + pickI x162.2.1 3, ((all.length : Nat) : Int) + 1, x162.2.2.2.2.2)).1.1) ((wApp w_0 w_1 w_2 (max 1 0 + pickI x162.2.1 3, ((all.length : Nat) : Int) + 1, x162.2.2.2.2.2)).1.2.1) ((wApp w_0 w_1 w_2 (max 1 0 + pickI x162.2.1 3, ((all.length : Nat) : Int) + 1, x162.2.2.2.2.2)).1.2.2)).1.1, (wSync ((wApp w_0 w_1 w_2 (max 1 0 + pickI x162.2.1 3, ((all.length : Nat) : Int) + 1, x162.2.2.2.2.2)).1.1) ((wApp w_0 w_1 w_2 (max 1 0 + pickI x162.2.1 3, ((all.length : Nat) : Int) + 1, x162.2.2.2.2.2)).1.2.1) ((wApp w_0 w_1 w_2 (max 1 0 + pickI x162.2.1 3, ((all.length : Nat) : Int) + 1, x162.2.2.2.2.2)).1.2.2)).1.2.1, (wSync ((wApp w_0 w_1 w_2 (max 1 0 + pickI x162.2.1 3, ((all.length : Nat) : Int) + 1, x162.2.2.2.2.2)).1.1) ((wApp w_0 w_1 w_2 (max 1 0 + pickI x162.2.1 3, ((all.length : Nat) : Int) + 1, x162.2.2.2.2.2)).1.2.1) ((wApp w_0 w_1 w_2 (max 1 0 + pickI x162.2.1 3, ((all.length : Nat) : Int) + 1, x162.2.2.2.2.2)).1.2.2)).1.2.2, endsC (wSync ((wApp w_0 w_1 w_2 (max 1 0 + pickI x162.2.1 3, ((all.length : Nat) : Int) + 1, x162.2.2.2.2.2)).1.1) ((wApp w_0 w_1 w_2 (max 1 0 + pickI x162.2.1 3, ((all.length : Nat) : Int) + 1, x162.2.2.2.2.2)).1.2.1) ((wApp w_0 w_1 w_2 (max 1 0 + pickI x162.2.1 3, ((all.length : Nat) : Int) + 1, x162.2.2.2.2.2)).1.2.2)).1.2.2, m179, all, all_A, all_c, all_m, all, A184_0, c184_0, m184⟩, ⟨by (dsimp only; omega), by first | exact (kl_app0 hk hb hc (by assumption)).1 | exact ((kl_appSync hk hb hc (by assumption) (by assumption)).1 (by assumption)).1, by first | exact (kl_app0 hk hb hc (by assumption)).2.1 | exact ((kl_appSync hk hb hc (by assumption) (by assumption)).1 (by assumption)).2.1, by first | exact (kl_app0 hk hb hc (by assumption)).2.2 | exact ((kl_appSync hk hb hc (by assumption) (by assumption)).1 (by assumption)).2.2, by first | (rw [(kl_app0 hk hb hc (by assumption)).2.2]; done) | (rw [((kl_appSync hk hb hc (by assumption) (by assumption)).1 (by assumption)).2.2]; done), by (dsimp only; omega), by (simp only [List.length_append, List.length_cons, List.length_nil]; omega), h_all, f184_0, w179_0⟩, by (dsimp only; omega), ⟨⟨rfl, rfl, rfl, rfl, rfl, rfl, rfl, rfl, rfl, rfl, trivial⟩, fun _ h => Inv.sub (Inv.num h 284 235 rfl) [235, 234, 125, 0]⟩⟩
                · -- FFFTFTFJAF
                  refine VC.exit ?_
                  refine outE ?_
                  refine outE ?_
                  refine outBB ?_
                  exact outN (hJ2 ⟨w_0, w_1, w_2, w_3, w_m, all, all_A, all_c, all_m, sure, sure_A, sure_c, sure_m⟩ _ _ ⟨by first | exact kl_kp hk | exact kl_app6 hk hb hc (by assumption) | exact (kl_appSync hk hb hc (by assumption) (by assumption)).2 (by assumption), by first | omega | (simp only [List.length_append, List.length_cons, List.length_nil]; omega), by (dsimp only; omega), h_all, h_sure, h_w⟩ ⟨⟨rfl, rfl, rfl, rfl, rfl, rfl, rfl, trivial⟩, fun _ h => Inv.sub (Inv.num (Inv.num h 234 127 rfl) 235 128 rfl) [125, 128, 127, 0]⟩)
            · -- FFFTFA
              intro hJ1
              refine VC.rs ?_
              refine VO.mv ?_
              refine VO.y rfl (.geq rfl rfl) ?_
              refine VO.mv ?_
              refine VO.dec (t := 48) rfl (fun hc185 => ?_) (fun hc185 => ?_)
              · -- FFFTFAT
                refine VO.gy rfl ⟨_, rfl, rfl⟩ (.mv rfl) ?_
                refine VO.gy rfl ⟨_, rfl, rfl⟩ (.mv rfl) ?_
                obtain ⟨q187_E, q187_A2, q187_c2, q187_A3, q187_c3, q187_n0, q187_n2, q187_n3, _, q187_S, q187_0, q187_2, q187_3⟩ := openP_walWal (x0 := (s6_0, (wOpen newD).1)) (x1 := false) (x2 := (wLog newD).1) (x3 := endsC (wLog newD).1) f10_0
                dsimp only at q187_0
                have q187_r2 := q187_2.rm
                have q187_r3 := q187_3.rm
                refine VO.inv _ (fun _ h => h.parts (i := 106) rfl q187_S [291, 288, 289, 290]) ?_
                refine VO.gcall 288 rfl ⟨_, rfl, rfl⟩ fnOk22 rfl rfl (fun W hW => dFuse_ok W (hW.at (i := 288) rfl) q187_0 d1 (by simp only [inK]; (exact fin1_walKeeps_ok)) (by assumption)) (fun v186 m186 hv186 => ?_)
                obtain ⟨rfl, w186_0⟩ := hv186
                have hfa192 := (fuse_ok (n := d1) (show okD ((wOpen newD).1) by assumption))
                have hfa193 := (fuse_w ((wOpen newD).1) d1)
                refine VO.gy rfl ⟨_, rfl, rfl⟩ (.neq rfl rfl) ?_
                refine VO.y rfl (.pT rfl rfl) ?_
                refine VO.clsP 294 [291, 288, 289, 290] rfl (fun hg194 => (mkP_walWal (s6_0, (dFuse ((wOpen newD).1) d1).1) false ((wLog newD).1) (endsC (wLog newD).1) hg194 w186_0 q187_2 (OwnL.ow (Ow.ownl q187_3 rfl mnil) rfl))) (fun mc194 ho194 => ?_)
                refine VO.k12 0 1 2 3 8 9 10 11 22 33 45 53 ?_
                refine VC.cond rfl (fun hc195 => ?_) (fun hc195 => ?_)
                · -- FFFTFATT
                  first | exact absurd rfl hc195 | exact absurd (by decide) hc195 | (refine absurd ?_ hc195; rw [lv0]; done) | (refine absurd ?_ hc195; rw [lv0]; exact (kl_fuse kl_new (by omega)).1) | exact absurd hk0.1 hc195 | exact absurd (kp_pull hkp (by assumption)).1 hc195 | exact absurd (kp_start (kp_pull hkp (by assumption)).2.1 (kp_pull hkp (by assumption)).2.2 (by omega) (by omega)).1 hc195 | exact absurd (kp_start hkp (kp_off hkp (by assumption)) (by omega) (by omega)).1 hc195 | exact absurd hko.1 hc195 | exact absurd hko.2.2.2.1 hc195 | exact absurd hkf.2.1 hc195 | exact absurd hkf.2.2.1 hc195 | (exfalso; omega)
                · -- FFFTFATF
                  refine VC.skip ?_
                  exact outN (hJ1 ⟨(dFuse ((wOpen newD).1) d1).1, false, (wLog newD).1, endsC (wLog newD).1, mc194⟩ _ _ ⟨by (rw [lv0]; first | exact kl_new | exact (kl_fuse kl_new (by omega)).2), by rfl, by exact lv0l, by (rw [lv0l]; rfl), by (dsimp only; omega), ho194⟩ ⟨⟨rfl, rfl, rfl, rfl, rfl, rfl, rfl, trivial⟩, fun _ h => Inv.sub (Inv.num h 294 125 rfl) [125, 0]⟩)
              · -- FFFTFAF
                refine VO.gN ?_
                refine VO.gN ?_
                refine VO.gN ?_
                refine VO.gN ?_
                refine VO.y rfl (.pF rfl rfl) ?_
                refine VO.k12 0 1 2 3 8 9 10 11 22 33 45 53 ?_
                refine VC.condF rfl ?_
                refine VC.skip ?_
                exact outN (hJ1 ⟨(wOpen newD).1, false, (wLog newD).1, endsC (wLog newD).1, m10⟩ _ _ ⟨by (rw [lv0]; first | exact kl_new | exact (kl_fuse kl_new (by omega)).2), by rfl, by exact lv0l, by (rw [lv0l]; rfl), by (dsimp only; omega), f10_0⟩ ⟨⟨rfl, rfl, rfl, rfl, rfl, rfl, rfl, trivial⟩, fun _ h => Inv.sub (Inv.num h 106 125 rfl) [125, 0]⟩)
        · -- FFFF
          first | exact absurd rfl hsp9 | exact absurd (by decide) hsp9 | (refine absurd ?_ hsp9; rw [lv0]; done) | (refine absurd ?_ hsp9; rw [lv0]; exact (kl_fuse kl_new (by omega)).1) | exact absurd hk0.1 hsp9 | exact absurd (kp_pull hkp (by assumption)).1 hsp9 | exact absurd (kp_start (kp_pull hkp (by assumption)).2.1 (kp_pull hkp (by assumption)).2.2 (by omega) (by omega)).1 hsp9 | exact absurd (kp_start hkp (kp_off hkp (by assumption)) (by omega) (by omega)).1 hsp9 | exact absurd hko.1 hsp9 | exact absurd hko.2.2.2.1 hsp9 | exact absurd hkf.2.1 hsp9 | exact absurd hkf.2.2.1 hsp9 | (exfalso; omega)
end
section
set_option linter.unusedVariables false
set_option maxRecDepth 4000
open Go.ChangeShapes Go.WideShapes Go.ChangeAt Go.RowKit
theorem walKeeps_ok0 : tyOk Try.prog 60 (.sl Tlaw12Act) (.inl 46) = true := by kernel_rfl
set_option maxRecDepth 100000 in
theorem walKeeps_lifted (os : Os) (started : os.Started) (H : Type) (enc : TypeId × Value → H) :
    ReturnsInHanded {} Try.checked os 5 .any (Rows.walKeepsSpec.pre6 enc Try.prog Try.f5 Rows.walKeepsRow.domain false) (Rows.walKeepsSpec.post enc Try.prog Try.f5 false true false false) := by
  refine returnsInHanded_of_change (C := Try.checked) (by kernel_rfl) started (by kernel_rfl) Try.func5
    (ChangeSpec.witness6 (enc := enc) (C := Try.checked) false ⟨#[], #[.slice none 0 0, .int .i64 0, .int .i64 0, .int .i64 0], []⟩ 8 (by kernel_rfl) (by kernel_rfl) (by kernel_rfl) (by kernel_rfl)) ?_
  intro W base args ds gs before hval0 hW hcnd _
  have hval : ∀ (j : Nat) t v, Try.f5.params[j]? = some t → args[j]? = some v → Value.okWide Try.prog W .any base t v := hval0
  have hW' := hW
  obtain ⟨p, q, hA0, hV, rfl, hfz, hnd⟩ := hW
  have hA : DataW.TrodAll enc Try.prog W 0 (fun _ => true) true Try.f5.params.toList args.toList ds p := hA0
  rw [Try.params5] at hA hval
  clear hA0 hval0
  obtain ⟨args⟩ := args
  obtain ⟨v0, r0, d0, e0, p0, q0, ha0, rfl, rfl, h0, hA0⟩ := trodAll_cons hA
  simp only at ha0; subst ha0
  obtain ⟨v1, r1, d1, e1, p1, q1, ha1, rfl, rfl, h1, hA1⟩ := trodAll_cons hA0
  subst ha1
  obtain ⟨v2, r2, d2, e2, p2, q2, ha2, rfl, rfl, h2, hA2⟩ := trodAll_cons hA1
  subst ha2
  obtain ⟨v3, r3, d3, e3, p3, q3, ha3, rfl, rfl, h3, hA3⟩ := trodAll_cons hA2
  subst ha3
  obtain ⟨rfl, rfl, rfl⟩ := trodAll_nil hA3
  obtain ⟨x0, hx0⟩ := arg_sl 60 walKeeps_ok0 Try.underlying46 (hval 0 46 v0 rfl rfl) h0
  obtain ⟨x1, rfl, hx1⟩ := arg_int Try.underlying3 (hval 1 3 v1 rfl rfl) h1
  obtain ⟨x2, rfl, hx2⟩ := arg_int Try.underlying3 (hval 2 3 v2 rfl rfl) h2
  obtain ⟨x3, rfl, hx3⟩ := arg_int Try.underlying3 (hval 3 3 v3 rfl rfl) h3
  refine (calls_of (walKeeps_ok W hx0 x1 hx1 x2 hx2 x3 hx3)).mono fun e W' ⟨he, hg⟩ => ?_
  subst he
  exact ⟨_, rfl, law_post hW' hg laidOut_ok (by kernel_rfl) rfl Try.underlying4 rfl rfl rfl rfl⟩
theorem walKeeps_joined : joinedFacts Try.prog 5 Try.f5 Rows.walKeepsSpec Rows.walKeepsRow = true := by
  unfold joinedFacts
  rw [laidOut_ok, mapsRowed_ok, stopsHeard_ok, mayEnter_ok, lifts_ok, make_ok]
  kernel_rfl
theorem walKeeps_proved : Rows.WalKeepsSaid :=
  OpenClaim.holds_of_wide 5 Try.f5 rfl rfl rfl rfl rfl rfl rfl ⟨rfl, rfl, rfl, rfl, rfl⟩ rfl rfl rfl rfl rfl (by kernel_rfl) Try.func5 walKeeps_joined
    (of_decide_eq_true (by kernel_rfl)) (by unfold Func.isWrapper; first | (rw [if_pos (by decide +kernel)]; kernel_rfl) | (rw [if_neg (by decide +kernel)]; exact ⟨rfl, rfl⟩))
    (fun os started H enc _ => walKeeps_lifted os started H enc)
#print axioms walKeeps_proved
end
end Go.Proofs.Ytdoamgdanlnlfaa
