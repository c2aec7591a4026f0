/- Part 7 of the proof of LOrphanTorn: what it needs of the library, the walks and the plain laws. Conditions: those named in each theorem. -/
import Derived.Test.YtbjkfnnabnacfaaLOrphanTornM6
namespace Go.Proofs.Ytbjkfnnabnacfaa
section
set_option linter.unusedVariables false
set_option linter.unusedSimpArgs false
set_option maxRecDepth 4000
theorem fnOk32 : fnOk Try.prog 32 = true := by kernel_rfl
theorem fnOk33 : fnOk Try.prog 33 = true := by kernel_rfl
theorem tsl58 : tsl Try.prog 58 = some (3, 1, 8) := by kernel_rfl
theorem tz3 : tz Try.prog 3 = some [.int .i64 0] := by kernel_rfl
set_option maxHeartbeats 8000000 in
theorem again19_ok (W : World) {v0 : List Value} {d0 : DSection} (h0 : Rd TSection (wm W) v0 d0) {v1 : Value} {d1 : List UInt8} (h1 : Rd (.sl .byte) (wm W) [v1] d1) (d2 : Int) (h2 : inK .i64 d2) (d3 : Int) (h3 : inK .i64 d3) (d4 : Int) (h4 : inK .i64 d4) (e0 : sectCheck d0 = 0) (e1 : ∃ X, d1 = X ++ sectEnc d0) (e2 : 0 ≤ d3 ∧ 0 ≤ d4) (e3 : d1.length ≤ 1000000000) : CallR Try.prog 33 [.agg v0.toArray, v1, .int .i64 d2, .int .i64 d3, .int .i64 d4] W (mnil) (fun v m' => v = .bool true) := by
  have hen := sectEncode_good (fun q => q e0)
  have hen1 := congrArg Prod.fst hen; dsimp only at hen1
  obtain ⟨X, hX⟩ := e1
  have hXl := congrArg List.length hX; rw [List.length_append] at hXl
  obtain ⟨p0_A2, p0_c2, rfl, p0_0, p0_1, p0_2⟩ := open_Section (x0 := d0.1) (x1 := d0.2.1) (x2 := d0.2.2) h0
  simp only [inK] at p0_0
  simp only [inK] at p0_1
  have p0_r2 := Rd.room p0_2
  obtain ⟨A1, c1, rfl, l1, k1⟩ := h1.slice
  simp only [maxLen] at k1
  have h2' := h2; simp only [inK] at h2'
  have h3' := h3; simp only [inK] at h3'
  have h4' := h4; simp only [inK] at h4'
  refine CallR.ofA (n := 92) Try.func33 rfl rfl rfl ?_
  refine VC.rs ?_
  refine VO.box (cs := [Value.int .i64 (d0.1), Value.int .i64 (d0.2.1), Value.slice p0_A2 (d0.2.2.length) (p0_c2)]) 102 rfl rfl rfl (fun g1 => ?_)
  refine VO.as ?_
  refine VO.k7 0 1 2 3 4 5 10 ?_
  refine VC.rs ?_
  refine VO.y rfl (.ldA 102 rfl tk24 rfl (cellsAt_one rfl rfl)) ?_
  refine VO.callN 103 rfl fnOk16 rfl (fun W hW => sectEncode_ok W (Rd.mono h0 (hW.at (i := 0) rfl))) (fun v3 m3 hv3 => ?_)
  obtain ⟨s3_0, rfl, f3_0⟩ := hv3
  have hfa4 := sectEncode_len d0
  obtain ⟨A3_0, c3_0, eq3_0, l3_0, k3_0⟩ := f3_0.slice
  subst eq3_0
  simp only [maxLen] at k3_0
  refine VO.mv ?_
  refine VO.y rfl (.ext rfl rfl) ?_
  refine VO.y rfl (.ext rfl rfl) ?_
  refine VO.as ?_
  refine VO.as ?_
  refine VO.k8 0 1 2 3 4 5 10 11 ?_
  refine VC.rs ?_
  refine VO.mv ?_
  refine VO.y rfl (.lenS rfl tsl25) ?_
  refine VO.mv ?_
  refine VO.y rfl (.lenS rfl tsl25) ?_
  refine VO.y rfl (.sub rfl rfl rfl ⟨by first | omega | (simp only [List.length_append, List.length_nil, List.length_cons, List.length_take, List.length_drop] at *; omega) | (rw [hen1] at *; omega), by first | omega | (simp only [List.length_append, List.length_nil, List.length_cons, List.length_take, List.length_drop] at *; omega) | (rw [hen1] at *; omega)⟩) ?_
  refine VO.as ?_
  refine VO.keep [103, 102, 0] [(103, m3), (102, mone g1 (.cells [Value.int .i64 (d0.1), Value.int .i64 (d0.2.1), Value.slice p0_A2 (d0.2.2.length) (p0_c2)].toArray 24 (0, 0))), (0, wm W)] (by kernel_rfl) ?_
  refine VO.k9 0 1 2 3 4 5 10 11 13 ?_
  refine VC.rs ?_
  refine VO.callN 105 rfl fnOk28 rfl (fun W hW => dNew_ok W ) (fun v5 m5 hv5 => ?_)
  obtain ⟨s5_0, rfl, f5_0⟩ := hv5
  have hfa6 := okD_new
  have hfa7 := (show wD newD = 0 from rfl)
  refine VO.as ?_
  refine VO.k10 0 1 2 3 4 5 10 11 13 14 ?_
  refine VC.seq ?_
  refine VC.rs ?_
  refine VO.mv ?_
  refine VO.y rfl (.lss rfl rfl) ?_
  refine VO.mv ?_
  refine VO.dec (t := 29) rfl (fun hc8 => ?_) (fun hc8 => ?_)
  · -- T
    exfalso; rw [hen1] at hc8; omega
  · -- F
    refine VO.gy rfl ⟨_, rfl, rfl⟩ (.mv rfl) ?_
    refine VO.gy rfl ⟨_, rfl, rfl⟩ (.mv rfl) ?_
    refine VO.gy rfl ⟨_, rfl, rfl⟩ (.mv rfl) ?_
    have hs9 := h1.pre (j := ((((d1.length : Nat) : Int) - ((((sectEncode d0).1).length : Nat) : Int)).toNat)) (by first | omega | (simp only [List.length_append, List.length_nil, List.length_cons, List.length_take, List.length_drop] at *; omega) | (rw [hen1] at *; omega))
    refine VO.gy rfl ⟨_, rfl, rfl⟩ (.slHI ((((d1.length : Nat) : Int) - ((((sectEncode d0).1).length : Nat) : Int)).toNat) rfl rfl tsl25 (by first | omega | (simp only [List.length_append, List.length_nil, List.length_cons, List.length_take, List.length_drop] at *; omega) | (rw [hen1] at *; omega)) (by first | omega | (simp only [List.length_append, List.length_nil, List.length_cons, List.length_take, List.length_drop] at *; omega) | (rw [hen1] at *; omega))) ?_
    refine VO.gcall 105 rfl ⟨_, rfl, rfl⟩ fnOk35 rfl rfl (fun W hW => dWrite_ok W (hW.at (i := 105) rfl) f5_0 3 (by simp only [inK]; (first | omega | (simp only [List.length_append, List.length_nil, List.length_cons, List.length_take, List.length_drop] at *; omega) | (rw [hen1] at *; omega))) (Rd.mono hs9 (hW.out (i := 105) (j := 0) rfl rfl)) (by assumption) (by first | omega | (simp only [List.length_append, List.length_nil, List.length_cons, List.length_take, List.length_drop] at *; omega) | (rw [hen1] at *; omega))) (fun v10 m10 hv10 => ?_)
    obtain ⟨rfl, w10_0⟩ := hv10
    have hfa11 := (write_ok (f := 3) (b := ((d1).take ((((d1.length : Nat) : Int) - ((((sectEncode d0).1).length : Nat) : Int)).toNat))) (show okD newD by assumption))
    have hfa12 := (write_w (f := 3) (b := ((d1).take ((((d1.length : Nat) : Int) - ((((sectEncode d0).1).length : Nat) : Int)).toNat))) (show okD newD by assumption))
    refine VO.gy rfl ⟨_, rfl, rfl⟩ (.neq rfl rfl) ?_
    refine VO.y rfl (.pF rfl rfl) ?_
    refine VO.mv ?_
    refine VO.dec (t := 37) rfl (fun hc13 => ?_) (fun hc13 => ?_)
    · -- FT
      exact absurd (ag_first (X := (d1.take ((d1.length : Int) - ((sectEncode d0).1.length : Int)).toNat)) (by simp only [List.length_take]; omega)).1 hc13
    · -- FF
      refine VO.gy rfl ⟨_, rfl, rfl⟩ (.mv rfl) ?_
      refine VO.gcall 105 rfl ⟨_, rfl, rfl⟩ fnOk37 rfl rfl (fun W hW => dSync_ok W (hW.at (i := 105) rfl) w10_0 (by assumption) (by first | omega | (simp only [List.length_append, List.length_nil, List.length_cons, List.length_take, List.length_drop] at *; omega) | (rw [hen1] at *; omega))) (fun v14 m14 hv14 => ?_)
      obtain ⟨rfl, w14_0⟩ := hv14
      have hfa15 := (sync_ok (show okD ((dWrite newD 3 ((d1).take ((((d1.length : Nat) : Int) - ((((sectEncode d0).1).length : Nat) : Int)).toNat))).1) by assumption))
      have hfa16 := (sync_w (show okD ((dWrite newD 3 ((d1).take ((((d1.length : Nat) : Int) - ((((sectEncode d0).1).length : Nat) : Int)).toNat))).1) by assumption))
      refine VO.gy rfl ⟨_, rfl, rfl⟩ (.neq rfl rfl) ?_
      refine VO.y rfl (.pF rfl rfl) ?_
      refine VO.k11 0 1 2 3 4 5 10 11 13 14 41 ?_
      refine VC.cond rfl (fun hc17 => ?_) (fun hc17 => ?_)
      · -- FFT
        exact absurd (ag_first (X := (d1.take ((d1.length : Int) - ((sectEncode d0).1.length : Int)).toNat)) (by simp only [List.length_take]; omega)).2.1 hc17
      · -- FFF
        refine VC.skip ?_
        refine outN ?_
        refine VC.seq ?_
        refine VC.rs ?_
        obtain ⟨hX1, hX2⟩ := ag_base hX e0
        have hXb : ((d1.length : Int) - ((sectEncode d0).1.length : Int)) = (((d1.take ((d1.length : Int) - ((sectEncode d0).1.length : Int)).toNat)).length : Int) := ag_len hX1 hX2
        have hP0 := ag_pg (X := (d1.take ((d1.length : Int) - ((sectEncode d0).1.length : Int)).toNat)) (by rw [hX1]; omega)
        refine VO.mv ?_
        refine VO.y rfl (.geq rfl rfl) ?_
        refine VO.mv ?_
        refine VO.dec (t := 44) rfl (fun hc18 => ?_) (fun hc18 => ?_)
        · -- FFFT
          refine VO.gy rfl ⟨_, rfl, rfl⟩ (.mv rfl) ?_
          refine VO.gy rfl ⟨_, rfl, rfl⟩ (.mv rfl) ?_
          refine VO.gcall 105 rfl ⟨_, rfl, rfl⟩ fnOk39 rfl rfl (fun W hW => dFuse_ok W (hW.at (i := 105) rfl) w14_0 d2 (by simp only [inK]; (first | omega | (simp only [List.length_append, List.length_nil, List.length_cons, List.length_take, List.length_drop] at *; omega) | (rw [hen1] at *; omega))) (by assumption)) (fun v19 m19 hv19 => ?_)
          obtain ⟨rfl, w19_0⟩ := hv19
          have hfa20 := (fuse_ok (n := d2) (show okD ((dSync ((dWrite newD 3 ((d1).take ((((d1.length : Nat) : Int) - ((((sectEncode d0).1).length : Nat) : Int)).toNat))).1)).1) by assumption))
          have hfa21 := (fuse_w ((dSync ((dWrite newD 3 ((d1).take ((((d1.length : Nat) : Int) - ((((sectEncode d0).1).length : Nat) : Int)).toNat))).1)).1) d2)
          refine VO.gy rfl ⟨_, rfl, rfl⟩ (.neq rfl rfl) ?_
          refine VO.y rfl (.pT rfl rfl) ?_
          refine VO.keep [105, 103, 102, 0] [(105, m19), (103, m3), (102, mone g1 (.cells [Value.int .i64 (d0.1), Value.int .i64 (d0.2.1), Value.slice p0_A2 (d0.2.2.length) (p0_c2)].toArray 24 (0, 0))), (0, wm W)] (by kernel_rfl) ?_
          refine VO.k12 0 1 2 3 4 5 10 11 13 14 41 49 ?_
          refine VC.cond rfl (fun hc22 => ?_) (fun hc22 => ?_)
          · -- FFFTT
            exact absurd (pg_fuse hP0.1 hP0.2 (by omega)).1 hc22
          · -- FFFTF
            refine VC.skip ?_
            refine outN ?_
            refine VC.rs ?_
            refine VO.mv ?_
            refine VO.mv ?_
            refine VO.y rfl (.ldA 102 rfl tk24 rfl (cellsAt_one rfl rfl)) ?_
            refine VO.call 105 rfl fnOk29 rfl rfl (fun W hW => oWrite_ok W (hW.at (i := 105) rfl) w19_0 (((d1.length : Nat) : Int) - ((((sectEncode d0).1).length : Nat) : Int)) (by simp only [inK]; (first | omega | (simp only [List.length_append, List.length_nil, List.length_cons, List.length_take, List.length_drop] at *; omega) | (rw [hen1] at *; omega))) (Rd.mono h0 (hW.out (i := 105) (j := 0) rfl rfl)) (by assumption) (by first | omega | (simp only [List.length_append, List.length_nil, List.length_cons, List.length_take, List.length_drop] at *; omega) | (rw [hen1] at *; omega))) (fun v23 m23 hv23 => ?_)
            obtain ⟨rfl, w23_0⟩ := hv23
            have hfa24 := (orphW_ok (base := (((d1.length : Nat) : Int) - ((((sectEncode d0).1).length : Nat) : Int))) (s := d0) (show okD ((dFuse ((dSync ((dWrite newD 3 ((d1).take ((((d1.length : Nat) : Int) - ((((sectEncode d0).1).length : Nat) : Int)).toNat))).1)).1) d2).1) by assumption))
            have hfa25 := (orphW_w (base := (((d1.length : Nat) : Int) - ((((sectEncode d0).1).length : Nat) : Int))) (s := d0) (show okD ((dFuse ((dSync ((dWrite newD 3 ((d1).take ((((d1.length : Nat) : Int) - ((((sectEncode d0).1).length : Nat) : Int)).toNat))).1)).1) d2).1) by assumption))
            refine VO.as ?_
            refine VO.k13 0 1 2 3 4 5 10 11 13 14 15 41 49 ?_
            refine VC.seq ?_
            refine VC.rs ?_
            refine VO.mv ?_
            refine VO.y rfl (.neq rfl rfl) ?_
            refine VO.mv ?_
            refine VO.dec (t := 56) rfl (fun hc26 => ?_) (fun hc26 => ?_)
            · -- FFFTFT
              refine VO.gy rfl ⟨_, rfl, rfl⟩ (.mv rfl) ?_
              refine VO.gy rfl ⟨_, rfl, rfl⟩ (.neq rfl rfl) ?_
              refine VO.y rfl (.pT rfl rfl) ?_
              refine VO.mv ?_
              refine VO.dec (t := 60) rfl (fun hc27 => ?_) (fun hc27 => ?_)
              · -- FFFTFTT
                exfalso; rcases (ag_orph3 (base := ((d1.length : Int) - ((sectEncode d0).1.length : Int))) (pg_fuse (n := d2) hP0.1 hP0.2 (by omega)).2.1 (pg_fuse (n := d2) hP0.1 hP0.2 (by omega)).2.2 e0 hXb).1 with ⟨a_, _⟩ | ⟨a_, _⟩ <;> omega
              · -- FFFTFTF
                refine VO.gy rfl ⟨_, rfl, rfl⟩ (.mv rfl) ?_
                refine VO.gy rfl ⟨_, rfl, rfl⟩ (.eql rfl rfl) ?_
                refine VO.gy rfl ⟨_, rfl, rfl⟩ (.mv rfl) ?_
                refine VO.gcall 105 rfl ⟨_, rfl, rfl⟩ fnOk44 rfl rfl (fun W hW => dOn_ok W (hW.at (i := 105) rfl) w23_0) (fun v28 m28 hv28 => ?_)
                obtain ⟨rfl, w28_0⟩ := hv28
                refine VO.gy rfl ⟨_, rfl, rfl⟩ (.bneq rfl rfl Try.underlying4) ?_
                refine VO.y rfl (.pF rfl rfl) ?_
                refine VO.k14 0 1 2 3 4 5 10 11 13 14 15 41 49 66 ?_
                refine VC.cond rfl (fun hc29 => ?_) (fun hc29 => ?_)
                · -- FFFTFTFT
                  exact absurd (ag_eq (ag_orph3 (base := ((d1.length : Int) - ((sectEncode d0).1.length : Int))) (pg_fuse (n := d2) hP0.1 hP0.2 (by omega)).2.1 (pg_fuse (n := d2) hP0.1 hP0.2 (by omega)).2.2 e0 hXb).1 (ag_orph3 (base := ((d1.length : Int) - ((sectEncode d0).1.length : Int))) (pg_fuse (n := d2) hP0.1 hP0.2 (by omega)).2.1 (pg_fuse (n := d2) hP0.1 hP0.2 (by omega)).2.2 e0 hXb).2.2) hc29
                · -- FFFTFTFF
                  refine VC.skip ?_
                  refine outN ?_
                  refine VC.seq ?_
                  refine VC.rs ?_
                  refine VO.mv ?_
                  refine VO.call 105 rfl fnOk44 rfl rfl (fun W hW => dOn_ok W (hW.at (i := 105) rfl) w28_0) (fun v30 m30 hv30 => ?_)
                  obtain ⟨rfl, w30_0⟩ := hv30
                  refine VO.mv ?_
                  refine VO.dec (t := 69) rfl (fun hc31 => ?_) (fun hc31 => ?_)
                  · -- FFFTFTFFT
                    exact absurd (hc31.2.symm.trans ((ag_orph3 (base := ((d1.length : Int) - ((sectEncode d0).1.length : Int))) (pg_fuse (n := d2) hP0.1 hP0.2 (by omega)).2.1 (pg_fuse (n := d2) hP0.1 hP0.2 (by omega)).2.2 e0 hXb).1.resolve_left (fun q => absurd q.1 (by assumption))).2) (by decide)
                  · -- FFFTFTFFF
                    refine VO.gN ?_
                    refine VO.gN ?_
                    refine VO.gN ?_
                    refine VO.y rfl (.pF rfl rfl) ?_
                    refine VO.mv ?_
                    refine VO.gy rfl ⟨_, rfl, rfl⟩ (.mv rfl) ?_
                    refine VO.gy rfl ⟨_, rfl, rfl⟩ (.mv rfl) ?_
                    refine VO.gy rfl ⟨_, rfl, rfl⟩ (.mv rfl) ?_
                    refine VO.gcall 105 rfl ⟨_, rfl, rfl⟩ fnOk48 rfl rfl (fun W hW => dStart_ok W (hW.at (i := 105) rfl) w30_0 d3 (by simp only [inK]; (first | omega | (simp only [List.length_append, List.length_nil, List.length_cons, List.length_take, List.length_drop] at *; omega) | (rw [hen1] at *; omega))) d4 (by simp only [inK]; (first | omega | (simp only [List.length_append, List.length_nil, List.length_cons, List.length_take, List.length_drop] at *; omega) | (rw [hen1] at *; omega))) (by assumption) (by first | omega | (simp only [List.length_append, List.length_nil, List.length_cons, List.length_take, List.length_drop] at *; omega) | (rw [hen1] at *; omega))) (fun v32 m32 hv32 => ?_)
                    obtain ⟨rfl, w32_0⟩ := hv32
                    have hfa33 := (start_ok (k := d3) (t := d4) (show okD ((orphW ((dFuse ((dSync ((dWrite newD 3 ((d1).take ((((d1.length : Nat) : Int) - ((((sectEncode d0).1).length : Nat) : Int)).toNat))).1)).1) d2).1) (((d1.length : Nat) : Int) - ((((sectEncode d0).1).length : Nat) : Int)) d0).1) by assumption))
                    have hfa34 := (start_w ((orphW ((dFuse ((dSync ((dWrite newD 3 ((d1).take ((((d1.length : Nat) : Int) - ((((sectEncode d0).1).length : Nat) : Int)).toNat))).1)).1) d2).1) (((d1.length : Nat) : Int) - ((((sectEncode d0).1).length : Nat) : Int)) d0).1) d3 d4)
                    refine VO.gy rfl ⟨_, rfl, rfl⟩ (.neq rfl rfl) ?_
                    refine VO.y rfl (.pF rfl rfl) ?_
                    refine VO.mv ?_
                    refine VO.dec (t := 81) rfl (fun hc35 => ?_) (fun hc35 => ?_)
                    · -- FFFTFTFFFT
                      exact absurd (ag_start (base := ((d1.length : Int) - ((sectEncode d0).1.length : Int))) (k := d3) (t := d4) (ag_orph3 (base := ((d1.length : Int) - ((sectEncode d0).1.length : Int))) (pg_fuse (n := d2) hP0.1 hP0.2 (by omega)).2.1 (pg_fuse (n := d2) hP0.1 hP0.2 (by omega)).2.2 e0 hXb).2.1 ((ag_orph3 (base := ((d1.length : Int) - ((sectEncode d0).1.length : Int))) (pg_fuse (n := d2) hP0.1 hP0.2 (by omega)).2.1 (pg_fuse (n := d2) hP0.1 hP0.2 (by omega)).2.2 e0 hXb).1.resolve_left (fun q => absurd q.1 (by assumption))).2 e2.1 e2.2 e0 hXb).1 hc35
                    · -- FFFTFTFFFF
                      refine VO.gy rfl ⟨_, rfl, rfl⟩ (.mv rfl) ?_
                      refine VO.gy rfl ⟨_, rfl, rfl⟩ (.mv rfl) ?_
                      refine VO.gy rfl ⟨_, rfl, rfl⟩ (.ldA 102 rfl tk24 rfl (cellsAt_one rfl rfl)) ?_
                      refine VO.gcall 105 rfl ⟨_, rfl, rfl⟩ fnOk29 rfl rfl (fun W hW => oWrite_ok W (hW.at (i := 105) rfl) w32_0 (((d1.length : Nat) : Int) - ((((sectEncode d0).1).length : Nat) : Int)) (by simp only [inK]; (first | omega | (simp only [List.length_append, List.length_nil, List.length_cons, List.length_take, List.length_drop] at *; omega) | (rw [hen1] at *; omega))) (Rd.mono h0 (hW.out (i := 105) (j := 0) rfl rfl)) (by assumption) (by first | omega | (simp only [List.length_append, List.length_nil, List.length_cons, List.length_take, List.length_drop] at *; omega) | (rw [hen1] at *; omega))) (fun v36 m36 hv36 => ?_)
                      obtain ⟨rfl, w36_0⟩ := hv36
                      have hfa37 := (orphW_ok (base := (((d1.length : Nat) : Int) - ((((sectEncode d0).1).length : Nat) : Int))) (s := d0) (show okD ((dStart ((orphW ((dFuse ((dSync ((dWrite newD 3 ((d1).take ((((d1.length : Nat) : Int) - ((((sectEncode d0).1).length : Nat) : Int)).toNat))).1)).1) d2).1) (((d1.length : Nat) : Int) - ((((sectEncode d0).1).length : Nat) : Int)) d0).1) d3 d4).1) by assumption))
                      have hfa38 := (orphW_w (base := (((d1.length : Nat) : Int) - ((((sectEncode d0).1).length : Nat) : Int))) (s := d0) (show okD ((dStart ((orphW ((dFuse ((dSync ((dWrite newD 3 ((d1).take ((((d1.length : Nat) : Int) - ((((sectEncode d0).1).length : Nat) : Int)).toNat))).1)).1) d2).1) (((d1.length : Nat) : Int) - ((((sectEncode d0).1).length : Nat) : Int)) d0).1) d3 d4).1) by assumption))
                      refine VO.gy rfl ⟨_, rfl, rfl⟩ (.neq rfl rfl) ?_
                      refine VO.y rfl (.pF rfl rfl) ?_
                      refine VO.keep [105, 103, 102, 0] [(105, m36), (103, m3), (102, mone g1 (.cells [Value.int .i64 (d0.1), Value.int .i64 (d0.2.1), Value.slice p0_A2 (d0.2.2.length) (p0_c2)].toArray 24 (0, 0))), (0, wm W)] (by kernel_rfl) ?_
                      refine VO.k15 0 1 2 3 4 5 10 11 13 14 15 41 49 66 87 ?_
                      refine VC.cond rfl (fun hc39 => ?_) (fun hc39 => ?_)
                      · -- FFFTFTFFFFT
                        exact absurd (ag_start (base := ((d1.length : Int) - ((sectEncode d0).1.length : Int))) (k := d3) (t := d4) (ag_orph3 (base := ((d1.length : Int) - ((sectEncode d0).1.length : Int))) (pg_fuse (n := d2) hP0.1 hP0.2 (by omega)).2.1 (pg_fuse (n := d2) hP0.1 hP0.2 (by omega)).2.2 e0 hXb).2.1 ((ag_orph3 (base := ((d1.length : Int) - ((sectEncode d0).1.length : Int))) (pg_fuse (n := d2) hP0.1 hP0.2 (by omega)).2.1 (pg_fuse (n := d2) hP0.1 hP0.2 (by omega)).2.2 e0 hXb).1.resolve_left (fun q => absurd q.1 (by assumption))).2 e2.1 e2.2 e0 hXb).2.1 hc39
                      · -- FFFTFTFFFFF
                        refine VC.skip ?_
                        refine outN ?_
                        refine VC.rs ?_
                        refine VO.mv ?_
                        refine VO.call 105 rfl fnOk30 rfl rfl (fun W hW => dDurable_ok W (hW.at (i := 105) rfl) w36_0 3 (by simp only [inK]; (first | omega | (simp only [List.length_append, List.length_nil, List.length_cons, List.length_take, List.length_drop] at *; omega) | (rw [hen1] at *; omega))) (by first | omega | (simp only [List.length_append, List.length_nil, List.length_cons, List.length_take, List.length_drop] at *; omega) | (rw [hen1] at *; omega))) (fun v40 m40 hv40 => ?_)
                        obtain ⟨s40_0, p40_0, p40_1, rfl, hS40, f40_0, w40_0⟩ := hv40
                        refine VO.inv _ (fun _ h => h.parts (i := 105) rfl hS40 [141, 142]) ?_
                        have hfa43 := (durable_size ((orphW ((dStart ((orphW ((dFuse ((dSync ((dWrite newD 3 ((d1).take ((((d1.length : Nat) : Int) - ((((sectEncode d0).1).length : Nat) : Int)).toNat))).1)).1) d2).1) (((d1.length : Nat) : Int) - ((((sectEncode d0).1).length : Nat) : Int)) d0).1) d3 d4).1) (((d1.length : Nat) : Int) - ((((sectEncode d0).1).length : Nat) : Int)) d0).1) 3)
                        obtain ⟨A40_0, c40_0, eq40_0, l40_0, k40_0⟩ := f40_0.slice
                        subst eq40_0
                        simp only [maxLen] at k40_0
                        refine VO.mv ?_
                        refine VO.callN 144 rfl fnOk21 rfl (fun W hW => SameBytes_ok W (OwnL.rd (Ow.ownl f40_0 rfl mnil) (hW.at (i := 141) rfl) (mle_nil _)) (Rd.mono h1 (hW.at (i := 0) rfl))) (fun v44 m44 hv44 => ?_)
                        subst hv44
                        refine VO.as ?_
                        refine VO.k15 0 1 2 3 4 5 10 11 13 14 15 41 49 66 87 ?_
                        refine VC.ret ?_
                        refine ⟨_, _, res_run (rs := [.tmp 10]) rfl (.tmp rfl .nil), fun W_ hI => out_of (l := []) hI [] rfl rfl (mle_refl _) (fun hS_ => ?_)⟩
                        dsimp only [packV]
                        all_goals (first | rfl | (exact congrArg Value.bool (decide_eq_true (by rw [(ag_start (base := ((d1.length : Int) - ((sectEncode d0).1.length : Int))) (k := d3) (t := d4) (ag_orph3 (base := ((d1.length : Int) - ((sectEncode d0).1.length : Int))) (pg_fuse (n := d2) hP0.1 hP0.2 (by omega)).2.1 (pg_fuse (n := d2) hP0.1 hP0.2 (by omega)).2.2 e0 hXb).2.1 ((ag_orph3 (base := ((d1.length : Int) - ((sectEncode d0).1.length : Int))) (pg_fuse (n := d2) hP0.1 hP0.2 (by omega)).2.1 (pg_fuse (n := d2) hP0.1 hP0.2 (by omega)).2.2 e0 hXb).1.resolve_left (fun q => absurd q.1 (by assumption))).2 e2.1 e2.2 e0 hXb).2.2, hX1]; exact hX.symm))))
            · -- FFFTFF
              refine VO.gN ?_
              refine VO.gN ?_
              refine VO.y rfl (.pF rfl rfl) ?_
              refine VO.mv ?_
              refine VO.gy rfl ⟨_, rfl, rfl⟩ (.mv rfl) ?_
              refine VO.gy rfl ⟨_, rfl, rfl⟩ (.eql rfl rfl) ?_
              refine VO.gy rfl ⟨_, rfl, rfl⟩ (.mv rfl) ?_
              refine VO.gcall 105 rfl ⟨_, rfl, rfl⟩ fnOk44 rfl rfl (fun W hW => dOn_ok W (hW.at (i := 105) rfl) w23_0) (fun v45 m45 hv45 => ?_)
              obtain ⟨rfl, w45_0⟩ := hv45
              refine VO.gy rfl ⟨_, rfl, rfl⟩ (.bneq rfl rfl Try.underlying4) ?_
              refine VO.y rfl (.pF rfl rfl) ?_
              refine VO.k14 0 1 2 3 4 5 10 11 13 14 15 41 49 66 ?_
              refine VC.cond rfl (fun hc46 => ?_) (fun hc46 => ?_)
              · -- FFFTFFT
                exact absurd (ag_eq (ag_orph3 (base := ((d1.length : Int) - ((sectEncode d0).1.length : Int))) (pg_fuse (n := d2) hP0.1 hP0.2 (by omega)).2.1 (pg_fuse (n := d2) hP0.1 hP0.2 (by omega)).2.2 e0 hXb).1 (ag_orph3 (base := ((d1.length : Int) - ((sectEncode d0).1.length : Int))) (pg_fuse (n := d2) hP0.1 hP0.2 (by omega)).2.1 (pg_fuse (n := d2) hP0.1 hP0.2 (by omega)).2.2 e0 hXb).2.2) hc46
              · -- FFFTFFF
                refine VC.skip ?_
                refine outN ?_
                refine VC.seq ?_
                refine VC.rs ?_
                refine VO.mv ?_
                refine VO.call 105 rfl fnOk44 rfl rfl (fun W hW => dOn_ok W (hW.at (i := 105) rfl) w45_0) (fun v47 m47 hv47 => ?_)
                obtain ⟨rfl, w47_0⟩ := hv47
                refine VO.mv ?_
                refine VO.dec (t := 69) rfl (fun hc48 => ?_) (fun hc48 => ?_)
                · -- FFFTFFFT
                  refine VO.gy rfl ⟨_, rfl, rfl⟩ (.mv rfl) ?_
                  refine VO.gcall 105 rfl ⟨_, rfl, rfl⟩ fnOk46 rfl rfl (fun W hW => dPull_ok W (hW.at (i := 105) rfl) w47_0 (by assumption)) (fun v49 m49 hv49 => ?_)
                  obtain ⟨rfl, w49_0⟩ := hv49
                  have hfa50 := (pull_ok (show okD ((orphW ((dFuse ((dSync ((dWrite newD 3 ((d1).take ((((d1.length : Nat) : Int) - ((((sectEncode d0).1).length : Nat) : Int)).toNat))).1)).1) d2).1) (((d1.length : Nat) : Int) - ((((sectEncode d0).1).length : Nat) : Int)) d0).1) by assumption))
                  have hfa51 := (pull_w ((orphW ((dFuse ((dSync ((dWrite newD 3 ((d1).take ((((d1.length : Nat) : Int) - ((((sectEncode d0).1).length : Nat) : Int)).toNat))).1)).1) d2).1) (((d1.length : Nat) : Int) - ((((sectEncode d0).1).length : Nat) : Int)) d0).1))
                  refine VO.gy rfl ⟨_, rfl, rfl⟩ (.neq rfl rfl) ?_
                  refine VO.y rfl (.pT rfl rfl) ?_
                  refine VO.mv ?_
                  refine VO.dec (t := 74) rfl (fun hc52 => ?_) (fun hc52 => ?_)
                  · -- FFFTFFFTT
                    exact absurd (ag_pull (ag_orph3 (base := ((d1.length : Int) - ((sectEncode d0).1.length : Int))) (pg_fuse (n := d2) hP0.1 hP0.2 (by omega)).2.1 (pg_fuse (n := d2) hP0.1 hP0.2 (by omega)).2.2 e0 hXb).2.1 ((ag_orph3 (base := ((d1.length : Int) - ((sectEncode d0).1.length : Int))) (pg_fuse (n := d2) hP0.1 hP0.2 (by omega)).2.1 (pg_fuse (n := d2) hP0.1 hP0.2 (by omega)).2.2 e0 hXb).1.resolve_right (fun q => by omega)).2).1 hc52
                  · -- FFFTFFFTF
                    refine VO.gy rfl ⟨_, rfl, rfl⟩ (.mv rfl) ?_
                    refine VO.gy rfl ⟨_, rfl, rfl⟩ (.mv rfl) ?_
                    refine VO.gy rfl ⟨_, rfl, rfl⟩ (.mv rfl) ?_
                    refine VO.gcall 105 rfl ⟨_, rfl, rfl⟩ fnOk48 rfl rfl (fun W hW => dStart_ok W (hW.at (i := 105) rfl) w49_0 d3 (by simp only [inK]; (first | omega | (simp only [List.length_append, List.length_nil, List.length_cons, List.length_take, List.length_drop] at *; omega) | (rw [hen1] at *; omega))) d4 (by simp only [inK]; (first | omega | (simp only [List.length_append, List.length_nil, List.length_cons, List.length_take, List.length_drop] at *; omega) | (rw [hen1] at *; omega))) (by assumption) (by first | omega | (simp only [List.length_append, List.length_nil, List.length_cons, List.length_take, List.length_drop] at *; omega) | (rw [hen1] at *; omega))) (fun v53 m53 hv53 => ?_)
                    obtain ⟨rfl, w53_0⟩ := hv53
                    have hfa54 := (start_ok (k := d3) (t := d4) (show okD ((dPull ((orphW ((dFuse ((dSync ((dWrite newD 3 ((d1).take ((((d1.length : Nat) : Int) - ((((sectEncode d0).1).length : Nat) : Int)).toNat))).1)).1) d2).1) (((d1.length : Nat) : Int) - ((((sectEncode d0).1).length : Nat) : Int)) d0).1)).1) by assumption))
                    have hfa55 := (start_w ((dPull ((orphW ((dFuse ((dSync ((dWrite newD 3 ((d1).take ((((d1.length : Nat) : Int) - ((((sectEncode d0).1).length : Nat) : Int)).toNat))).1)).1) d2).1) (((d1.length : Nat) : Int) - ((((sectEncode d0).1).length : Nat) : Int)) d0).1)).1) d3 d4)
                    refine VO.gy rfl ⟨_, rfl, rfl⟩ (.neq rfl rfl) ?_
                    refine VO.y rfl (.pF rfl rfl) ?_
                    refine VO.mv ?_
                    refine VO.dec (t := 81) rfl (fun hc56 => ?_) (fun hc56 => ?_)
                    · -- FFFTFFFTFT
                      exact absurd (ag_start (base := ((d1.length : Int) - ((sectEncode d0).1.length : Int))) (k := d3) (t := d4) (ag_pull (ag_orph3 (base := ((d1.length : Int) - ((sectEncode d0).1.length : Int))) (pg_fuse (n := d2) hP0.1 hP0.2 (by omega)).2.1 (pg_fuse (n := d2) hP0.1 hP0.2 (by omega)).2.2 e0 hXb).2.1 ((ag_orph3 (base := ((d1.length : Int) - ((sectEncode d0).1.length : Int))) (pg_fuse (n := d2) hP0.1 hP0.2 (by omega)).2.1 (pg_fuse (n := d2) hP0.1 hP0.2 (by omega)).2.2 e0 hXb).1.resolve_right (fun q => by omega)).2).2.1 (ag_pull (ag_orph3 (base := ((d1.length : Int) - ((sectEncode d0).1.length : Int))) (pg_fuse (n := d2) hP0.1 hP0.2 (by omega)).2.1 (pg_fuse (n := d2) hP0.1 hP0.2 (by omega)).2.2 e0 hXb).2.1 ((ag_orph3 (base := ((d1.length : Int) - ((sectEncode d0).1.length : Int))) (pg_fuse (n := d2) hP0.1 hP0.2 (by omega)).2.1 (pg_fuse (n := d2) hP0.1 hP0.2 (by omega)).2.2 e0 hXb).1.resolve_right (fun q => by omega)).2).2.2 e2.1 e2.2 e0 hXb).1 hc56
                    · -- FFFTFFFTFF
                      refine VO.gy rfl ⟨_, rfl, rfl⟩ (.mv rfl) ?_
                      refine VO.gy rfl ⟨_, rfl, rfl⟩ (.mv rfl) ?_
                      refine VO.gy rfl ⟨_, rfl, rfl⟩ (.ldA 102 rfl tk24 rfl (cellsAt_one rfl rfl)) ?_
                      refine VO.gcall 105 rfl ⟨_, rfl, rfl⟩ fnOk29 rfl rfl (fun W hW => oWrite_ok W (hW.at (i := 105) rfl) w53_0 (((d1.length : Nat) : Int) - ((((sectEncode d0).1).length : Nat) : Int)) (by simp only [inK]; (first | omega | (simp only [List.length_append, List.length_nil, List.length_cons, List.length_take, List.length_drop] at *; omega) | (rw [hen1] at *; omega))) (Rd.mono h0 (hW.out (i := 105) (j := 0) rfl rfl)) (by assumption) (by first | omega | (simp only [List.length_append, List.length_nil, List.length_cons, List.length_take, List.length_drop] at *; omega) | (rw [hen1] at *; omega))) (fun v57 m57 hv57 => ?_)
                      obtain ⟨rfl, w57_0⟩ := hv57
                      have hfa58 := (orphW_ok (base := (((d1.length : Nat) : Int) - ((((sectEncode d0).1).length : Nat) : Int))) (s := d0) (show okD ((dStart ((dPull ((orphW ((dFuse ((dSync ((dWrite newD 3 ((d1).take ((((d1.length : Nat) : Int) - ((((sectEncode d0).1).length : Nat) : Int)).toNat))).1)).1) d2).1) (((d1.length : Nat) : Int) - ((((sectEncode d0).1).length : Nat) : Int)) d0).1)).1) d3 d4).1) by assumption))
                      have hfa59 := (orphW_w (base := (((d1.length : Nat) : Int) - ((((sectEncode d0).1).length : Nat) : Int))) (s := d0) (show okD ((dStart ((dPull ((orphW ((dFuse ((dSync ((dWrite newD 3 ((d1).take ((((d1.length : Nat) : Int) - ((((sectEncode d0).1).length : Nat) : Int)).toNat))).1)).1) d2).1) (((d1.length : Nat) : Int) - ((((sectEncode d0).1).length : Nat) : Int)) d0).1)).1) d3 d4).1) by assumption))
                      refine VO.gy rfl ⟨_, rfl, rfl⟩ (.neq rfl rfl) ?_
                      refine VO.y rfl (.pF rfl rfl) ?_
                      refine VO.keep [105, 103, 102, 0] [(105, m57), (103, m3), (102, mone g1 (.cells [Value.int .i64 (d0.1), Value.int .i64 (d0.2.1), Value.slice p0_A2 (d0.2.2.length) (p0_c2)].toArray 24 (0, 0))), (0, wm W)] (by kernel_rfl) ?_
                      refine VO.k15 0 1 2 3 4 5 10 11 13 14 15 41 49 66 87 ?_
                      refine VC.cond rfl (fun hc60 => ?_) (fun hc60 => ?_)
                      · -- FFFTFFFTFFT
                        exact absurd (ag_start (base := ((d1.length : Int) - ((sectEncode d0).1.length : Int))) (k := d3) (t := d4) (ag_pull (ag_orph3 (base := ((d1.length : Int) - ((sectEncode d0).1.length : Int))) (pg_fuse (n := d2) hP0.1 hP0.2 (by omega)).2.1 (pg_fuse (n := d2) hP0.1 hP0.2 (by omega)).2.2 e0 hXb).2.1 ((ag_orph3 (base := ((d1.length : Int) - ((sectEncode d0).1.length : Int))) (pg_fuse (n := d2) hP0.1 hP0.2 (by omega)).2.1 (pg_fuse (n := d2) hP0.1 hP0.2 (by omega)).2.2 e0 hXb).1.resolve_right (fun q => by omega)).2).2.1 (ag_pull (ag_orph3 (base := ((d1.length : Int) - ((sectEncode d0).1.length : Int))) (pg_fuse (n := d2) hP0.1 hP0.2 (by omega)).2.1 (pg_fuse (n := d2) hP0.1 hP0.2 (by omega)).2.2 e0 hXb).2.1 ((ag_orph3 (base := ((d1.length : Int) - ((sectEncode d0).1.length : Int))) (pg_fuse (n := d2) hP0.1 hP0.2 (by omega)).2.1 (pg_fuse (n := d2) hP0.1 hP0.2 (by omega)).2.2 e0 hXb).1.resolve_right (fun q => by omega)).2).2.2 e2.1 e2.2 e0 hXb).2.1 hc60
                      · -- FFFTFFFTFFF
                        refine VC.skip ?_
                        refine outN ?_
                        refine VC.rs ?_
                        refine VO.mv ?_
                        refine VO.call 105 rfl fnOk30 rfl rfl (fun W hW => dDurable_ok W (hW.at (i := 105) rfl) w57_0 3 (by simp only [inK]; (first | omega | (simp only [List.length_append, List.length_nil, List.length_cons, List.length_take, List.length_drop] at *; omega) | (rw [hen1] at *; omega))) (by first | omega | (simp only [List.length_append, List.length_nil, List.length_cons, List.length_take, List.length_drop] at *; omega) | (rw [hen1] at *; omega))) (fun v61 m61 hv61 => ?_)
                        obtain ⟨s61_0, p61_0, p61_1, rfl, hS61, f61_0, w61_0⟩ := hv61
                        refine VO.inv _ (fun _ h => h.parts (i := 105) rfl hS61 [162, 163]) ?_
                        have hfa64 := (durable_size ((orphW ((dStart ((dPull ((orphW ((dFuse ((dSync ((dWrite newD 3 ((d1).take ((((d1.length : Nat) : Int) - ((((sectEncode d0).1).length : Nat) : Int)).toNat))).1)).1) d2).1) (((d1.length : Nat) : Int) - ((((sectEncode d0).1).length : Nat) : Int)) d0).1)).1) d3 d4).1) (((d1.length : Nat) : Int) - ((((sectEncode d0).1).length : Nat) : Int)) d0).1) 3)
                        obtain ⟨A61_0, c61_0, eq61_0, l61_0, k61_0⟩ := f61_0.slice
                        subst eq61_0
                        simp only [maxLen] at k61_0
                        refine VO.mv ?_
                        refine VO.callN 165 rfl fnOk21 rfl (fun W hW => SameBytes_ok W (OwnL.rd (Ow.ownl f61_0 rfl mnil) (hW.at (i := 162) rfl) (mle_nil _)) (Rd.mono h1 (hW.at (i := 0) rfl))) (fun v65 m65 hv65 => ?_)
                        subst hv65
                        refine VO.as ?_
                        refine VO.k15 0 1 2 3 4 5 10 11 13 14 15 41 49 66 87 ?_
                        refine VC.ret ?_
                        refine ⟨_, _, res_run (rs := [.tmp 10]) rfl (.tmp rfl .nil), fun W_ hI => out_of (l := []) hI [] rfl rfl (mle_refl _) (fun hS_ => ?_)⟩
                        dsimp only [packV]
                        all_goals (first | rfl | (exact congrArg Value.bool (decide_eq_true (by rw [(ag_start (base := ((d1.length : Int) - ((sectEncode d0).1.length : Int))) (k := d3) (t := d4) (ag_pull (ag_orph3 (base := ((d1.length : Int) - ((sectEncode d0).1.length : Int))) (pg_fuse (n := d2) hP0.1 hP0.2 (by omega)).2.1 (pg_fuse (n := d2) hP0.1 hP0.2 (by omega)).2.2 e0 hXb).2.1 ((ag_orph3 (base := ((d1.length : Int) - ((sectEncode d0).1.length : Int))) (pg_fuse (n := d2) hP0.1 hP0.2 (by omega)).2.1 (pg_fuse (n := d2) hP0.1 hP0.2 (by omega)).2.2 e0 hXb).1.resolve_right (fun q => by omega)).2).2.1 (ag_pull (ag_orph3 (base := ((d1.length : Int) - ((sectEncode d0).1.length : Int))) (pg_fuse (n := d2) hP0.1 hP0.2 (by omega)).2.1 (pg_fuse (n := d2) hP0.1 hP0.2 (by omega)).2.2 e0 hXb).2.1 ((ag_orph3 (base := ((d1.length : Int) - ((sectEncode d0).1.length : Int))) (pg_fuse (n := d2) hP0.1 hP0.2 (by omega)).2.1 (pg_fuse (n := d2) hP0.1 hP0.2 (by omega)).2.2 e0 hXb).1.resolve_right (fun q => by omega)).2).2.2 e2.1 e2.2 e0 hXb).2.2, hX1]; exact hX.symm))))
                · -- FFFTFFFF
                  exact absurd ⟨(ag_orph3 (base := ((d1.length : Int) - ((sectEncode d0).1.length : Int))) (pg_fuse (n := d2) hP0.1 hP0.2 (by omega)).2.1 (pg_fuse (n := d2) hP0.1 hP0.2 (by omega)).2.2 e0 hXb).2.2, ((ag_orph3 (base := ((d1.length : Int) - ((sectEncode d0).1.length : Int))) (pg_fuse (n := d2) hP0.1 hP0.2 (by omega)).2.1 (pg_fuse (n := d2) hP0.1 hP0.2 (by omega)).2.2 e0 hXb).1.resolve_right (fun q => by omega)).2⟩ hc48
        · -- FFFF
          refine VO.gN ?_
          refine VO.gN ?_
          refine VO.gN ?_
          refine VO.gN ?_
          refine VO.y rfl (.pF rfl rfl) ?_
          refine VO.keep [105, 103, 102, 0] [(105, m14), (103, m3), (102, mone g1 (.cells [Value.int .i64 (d0.1), Value.int .i64 (d0.2.1), Value.slice p0_A2 (d0.2.2.length) (p0_c2)].toArray 24 (0, 0))), (0, wm W)] (by kernel_rfl) ?_
          refine VO.k12 0 1 2 3 4 5 10 11 13 14 41 49 ?_
          refine VC.condF rfl ?_
          refine VC.skip ?_
          refine outN ?_
          refine VC.rs ?_
          refine VO.mv ?_
          refine VO.mv ?_
          refine VO.y rfl (.ldA 102 rfl tk24 rfl (cellsAt_one rfl rfl)) ?_
          refine VO.call 105 rfl fnOk29 rfl rfl (fun W hW => oWrite_ok W (hW.at (i := 105) rfl) w14_0 (((d1.length : Nat) : Int) - ((((sectEncode d0).1).length : Nat) : Int)) (by simp only [inK]; (first | omega | (simp only [List.length_append, List.length_nil, List.length_cons, List.length_take, List.length_drop] at *; omega) | (rw [hen1] at *; omega))) (Rd.mono h0 (hW.out (i := 105) (j := 0) rfl rfl)) (by assumption) (by first | omega | (simp only [List.length_append, List.length_nil, List.length_cons, List.length_take, List.length_drop] at *; omega) | (rw [hen1] at *; omega))) (fun v66 m66 hv66 => ?_)
          obtain ⟨rfl, w66_0⟩ := hv66
          have hfa67 := (orphW_ok (base := (((d1.length : Nat) : Int) - ((((sectEncode d0).1).length : Nat) : Int))) (s := d0) (show okD ((dSync ((dWrite newD 3 ((d1).take ((((d1.length : Nat) : Int) - ((((sectEncode d0).1).length : Nat) : Int)).toNat))).1)).1) by assumption))
          have hfa68 := (orphW_w (base := (((d1.length : Nat) : Int) - ((((sectEncode d0).1).length : Nat) : Int))) (s := d0) (show okD ((dSync ((dWrite newD 3 ((d1).take ((((d1.length : Nat) : Int) - ((((sectEncode d0).1).length : Nat) : Int)).toNat))).1)).1) by assumption))
          refine VO.as ?_
          refine VO.k13 0 1 2 3 4 5 10 11 13 14 15 41 49 ?_
          refine VC.seq ?_
          refine VC.rs ?_
          refine VO.mv ?_
          refine VO.y rfl (.neq rfl rfl) ?_
          refine VO.mv ?_
          refine VO.dec (t := 56) rfl (fun hc69 => ?_) (fun hc69 => ?_)
          · -- FFFFT
            refine VO.gy rfl ⟨_, rfl, rfl⟩ (.mv rfl) ?_
            refine VO.gy rfl ⟨_, rfl, rfl⟩ (.neq rfl rfl) ?_
            refine VO.y rfl (.pT rfl rfl) ?_
            refine VO.mv ?_
            refine VO.dec (t := 60) rfl (fun hc70 => ?_) (fun hc70 => ?_)
            · -- FFFFTT
              exfalso; rcases (ag_orph3 (base := ((d1.length : Int) - ((sectEncode d0).1.length : Int))) hP0.1 hP0.2 e0 hXb).1 with ⟨a_, _⟩ | ⟨a_, _⟩ <;> omega
            · -- FFFFTF
              refine VO.gy rfl ⟨_, rfl, rfl⟩ (.mv rfl) ?_
              refine VO.gy rfl ⟨_, rfl, rfl⟩ (.eql rfl rfl) ?_
              refine VO.gy rfl ⟨_, rfl, rfl⟩ (.mv rfl) ?_
              refine VO.gcall 105 rfl ⟨_, rfl, rfl⟩ fnOk44 rfl rfl (fun W hW => dOn_ok W (hW.at (i := 105) rfl) w66_0) (fun v71 m71 hv71 => ?_)
              obtain ⟨rfl, w71_0⟩ := hv71
              refine VO.gy rfl ⟨_, rfl, rfl⟩ (.bneq rfl rfl Try.underlying4) ?_
              refine VO.y rfl (.pF rfl rfl) ?_
              refine VO.k14 0 1 2 3 4 5 10 11 13 14 15 41 49 66 ?_
              refine VC.cond rfl (fun hc72 => ?_) (fun hc72 => ?_)
              · -- FFFFTFT
                exact absurd (ag_eq (ag_orph3 (base := ((d1.length : Int) - ((sectEncode d0).1.length : Int))) hP0.1 hP0.2 e0 hXb).1 (ag_orph3 (base := ((d1.length : Int) - ((sectEncode d0).1.length : Int))) hP0.1 hP0.2 e0 hXb).2.2) hc72
              · -- FFFFTFF
                refine VC.skip ?_
                refine outN ?_
                refine VC.seq ?_
                refine VC.rs ?_
                refine VO.mv ?_
                refine VO.call 105 rfl fnOk44 rfl rfl (fun W hW => dOn_ok W (hW.at (i := 105) rfl) w71_0) (fun v73 m73 hv73 => ?_)
                obtain ⟨rfl, w73_0⟩ := hv73
                refine VO.mv ?_
                refine VO.dec (t := 69) rfl (fun hc74 => ?_) (fun hc74 => ?_)
                · -- FFFFTFFT
                  exact absurd (hc74.2.symm.trans ((ag_orph3 (base := ((d1.length : Int) - ((sectEncode d0).1.length : Int))) hP0.1 hP0.2 e0 hXb).1.resolve_left (fun q => absurd q.1 (by assumption))).2) (by decide)
                · -- FFFFTFFF
                  refine VO.gN ?_
                  refine VO.gN ?_
                  refine VO.gN ?_
                  refine VO.y rfl (.pF rfl rfl) ?_
                  refine VO.mv ?_
                  refine VO.gy rfl ⟨_, rfl, rfl⟩ (.mv rfl) ?_
                  refine VO.gy rfl ⟨_, rfl, rfl⟩ (.mv rfl) ?_
                  refine VO.gy rfl ⟨_, rfl, rfl⟩ (.mv rfl) ?_
                  refine VO.gcall 105 rfl ⟨_, rfl, rfl⟩ fnOk48 rfl rfl (fun W hW => dStart_ok W (hW.at (i := 105) rfl) w73_0 d3 (by simp only [inK]; (first | omega | (simp only [List.length_append, List.length_nil, List.length_cons, List.length_take, List.length_drop] at *; omega) | (rw [hen1] at *; omega))) d4 (by simp only [inK]; (first | omega | (simp only [List.length_append, List.length_nil, List.length_cons, List.length_take, List.length_drop] at *; omega) | (rw [hen1] at *; omega))) (by assumption) (by first | omega | (simp only [List.length_append, List.length_nil, List.length_cons, List.length_take, List.length_drop] at *; omega) | (rw [hen1] at *; omega))) (fun v75 m75 hv75 => ?_)
                  obtain ⟨rfl, w75_0⟩ := hv75
                  have hfa76 := (start_ok (k := d3) (t := d4) (show okD ((orphW ((dSync ((dWrite newD 3 ((d1).take ((((d1.length : Nat) : Int) - ((((sectEncode d0).1).length : Nat) : Int)).toNat))).1)).1) (((d1.length : Nat) : Int) - ((((sectEncode d0).1).length : Nat) : Int)) d0).1) by assumption))
                  have hfa77 := (start_w ((orphW ((dSync ((dWrite newD 3 ((d1).take ((((d1.length : Nat) : Int) - ((((sectEncode d0).1).length : Nat) : Int)).toNat))).1)).1) (((d1.length : Nat) : Int) - ((((sectEncode d0).1).length : Nat) : Int)) d0).1) d3 d4)
                  refine VO.gy rfl ⟨_, rfl, rfl⟩ (.neq rfl rfl) ?_
                  refine VO.y rfl (.pF rfl rfl) ?_
                  refine VO.mv ?_
                  refine VO.dec (t := 81) rfl (fun hc78 => ?_) (fun hc78 => ?_)
                  · -- FFFFTFFFT
                    exact absurd (ag_start (base := ((d1.length : Int) - ((sectEncode d0).1.length : Int))) (k := d3) (t := d4) (ag_orph3 (base := ((d1.length : Int) - ((sectEncode d0).1.length : Int))) hP0.1 hP0.2 e0 hXb).2.1 ((ag_orph3 (base := ((d1.length : Int) - ((sectEncode d0).1.length : Int))) hP0.1 hP0.2 e0 hXb).1.resolve_left (fun q => absurd q.1 (by assumption))).2 e2.1 e2.2 e0 hXb).1 hc78
                  · -- FFFFTFFFF
                    refine VO.gy rfl ⟨_, rfl, rfl⟩ (.mv rfl) ?_
                    refine VO.gy rfl ⟨_, rfl, rfl⟩ (.mv rfl) ?_
                    refine VO.gy rfl ⟨_, rfl, rfl⟩ (.ldA 102 rfl tk24 rfl (cellsAt_one rfl rfl)) ?_
                    refine VO.gcall 105 rfl ⟨_, rfl, rfl⟩ fnOk29 rfl rfl (fun W hW => oWrite_ok W (hW.at (i := 105) rfl) w75_0 (((d1.length : Nat) : Int) - ((((sectEncode d0).1).length : Nat) : Int)) (by simp only [inK]; (first | omega | (simp only [List.length_append, List.length_nil, List.length_cons, List.length_take, List.length_drop] at *; omega) | (rw [hen1] at *; omega))) (Rd.mono h0 (hW.out (i := 105) (j := 0) rfl rfl)) (by assumption) (by first | omega | (simp only [List.length_append, List.length_nil, List.length_cons, List.length_take, List.length_drop] at *; omega) | (rw [hen1] at *; omega))) (fun v79 m79 hv79 => ?_)
                    obtain ⟨rfl, w79_0⟩ := hv79
                    have hfa80 := (orphW_ok (base := (((d1.length : Nat) : Int) - ((((sectEncode d0).1).length : Nat) : Int))) (s := d0) (show okD ((dStart ((orphW ((dSync ((dWrite newD 3 ((d1).take ((((d1.length : Nat) : Int) - ((((sectEncode d0).1).length : Nat) : Int)).toNat))).1)).1) (((d1.length : Nat) : Int) - ((((sectEncode d0).1).length : Nat) : Int)) d0).1) d3 d4).1) by assumption))
                    have hfa81 := (orphW_w (base := (((d1.length : Nat) : Int) - ((((sectEncode d0).1).length : Nat) : Int))) (s := d0) (show okD ((dStart ((orphW ((dSync ((dWrite newD 3 ((d1).take ((((d1.length : Nat) : Int) - ((((sectEncode d0).1).length : Nat) : Int)).toNat))).1)).1) (((d1.length : Nat) : Int) - ((((sectEncode d0).1).length : Nat) : Int)) d0).1) d3 d4).1) by assumption))
                    refine VO.gy rfl ⟨_, rfl, rfl⟩ (.neq rfl rfl) ?_
                    refine VO.y rfl (.pF rfl rfl) ?_
                    refine VO.keep [105, 103, 102, 0] [(105, m79), (103, m3), (102, mone g1 (.cells [Value.int .i64 (d0.1), Value.int .i64 (d0.2.1), Value.slice p0_A2 (d0.2.2.length) (p0_c2)].toArray 24 (0, 0))), (0, wm W)] (by kernel_rfl) ?_
                    refine VO.k15 0 1 2 3 4 5 10 11 13 14 15 41 49 66 87 ?_
                    refine VC.cond rfl (fun hc82 => ?_) (fun hc82 => ?_)
                    · -- FFFFTFFFFT
                      exact absurd (ag_start (base := ((d1.length : Int) - ((sectEncode d0).1.length : Int))) (k := d3) (t := d4) (ag_orph3 (base := ((d1.length : Int) - ((sectEncode d0).1.length : Int))) hP0.1 hP0.2 e0 hXb).2.1 ((ag_orph3 (base := ((d1.length : Int) - ((sectEncode d0).1.length : Int))) hP0.1 hP0.2 e0 hXb).1.resolve_left (fun q => absurd q.1 (by assumption))).2 e2.1 e2.2 e0 hXb).2.1 hc82
                    · -- FFFFTFFFFF
                      refine VC.skip ?_
                      refine outN ?_
                      refine VC.rs ?_
                      refine VO.mv ?_
                      refine VO.call 105 rfl fnOk30 rfl rfl (fun W hW => dDurable_ok W (hW.at (i := 105) rfl) w79_0 3 (by simp only [inK]; (first | omega | (simp only [List.length_append, List.length_nil, List.length_cons, List.length_take, List.length_drop] at *; omega) | (rw [hen1] at *; omega))) (by first | omega | (simp only [List.length_append, List.length_nil, List.length_cons, List.length_take, List.length_drop] at *; omega) | (rw [hen1] at *; omega))) (fun v83 m83 hv83 => ?_)
                      obtain ⟨s83_0, p83_0, p83_1, rfl, hS83, f83_0, w83_0⟩ := hv83
                      refine VO.inv _ (fun _ h => h.parts (i := 105) rfl hS83 [184, 185]) ?_
                      have hfa86 := (durable_size ((orphW ((dStart ((orphW ((dSync ((dWrite newD 3 ((d1).take ((((d1.length : Nat) : Int) - ((((sectEncode d0).1).length : Nat) : Int)).toNat))).1)).1) (((d1.length : Nat) : Int) - ((((sectEncode d0).1).length : Nat) : Int)) d0).1) d3 d4).1) (((d1.length : Nat) : Int) - ((((sectEncode d0).1).length : Nat) : Int)) d0).1) 3)
                      obtain ⟨A83_0, c83_0, eq83_0, l83_0, k83_0⟩ := f83_0.slice
                      subst eq83_0
                      simp only [maxLen] at k83_0
                      refine VO.mv ?_
                      refine VO.callN 187 rfl fnOk21 rfl (fun W hW => SameBytes_ok W (OwnL.rd (Ow.ownl f83_0 rfl mnil) (hW.at (i := 184) rfl) (mle_nil _)) (Rd.mono h1 (hW.at (i := 0) rfl))) (fun v87 m87 hv87 => ?_)
                      subst hv87
                      refine VO.as ?_
                      refine VO.k15 0 1 2 3 4 5 10 11 13 14 15 41 49 66 87 ?_
                      refine VC.ret ?_
                      refine ⟨_, _, res_run (rs := [.tmp 10]) rfl (.tmp rfl .nil), fun W_ hI => out_of (l := []) hI [] rfl rfl (mle_refl _) (fun hS_ => ?_)⟩
                      dsimp only [packV]
                      all_goals (first | rfl | (exact congrArg Value.bool (decide_eq_true (by rw [(ag_start (base := ((d1.length : Int) - ((sectEncode d0).1.length : Int))) (k := d3) (t := d4) (ag_orph3 (base := ((d1.length : Int) - ((sectEncode d0).1.length : Int))) hP0.1 hP0.2 e0 hXb).2.1 ((ag_orph3 (base := ((d1.length : Int) - ((sectEncode d0).1.length : Int))) hP0.1 hP0.2 e0 hXb).1.resolve_left (fun q => absurd q.1 (by assumption))).2 e2.1 e2.2 e0 hXb).2.2, hX1]; exact hX.symm))))
          · -- FFFFF
            refine VO.gN ?_
            refine VO.gN ?_
            refine VO.y rfl (.pF rfl rfl) ?_
            refine VO.mv ?_
            refine VO.gy rfl ⟨_, rfl, rfl⟩ (.mv rfl) ?_
            refine VO.gy rfl ⟨_, rfl, rfl⟩ (.eql rfl rfl) ?_
            refine VO.gy rfl ⟨_, rfl, rfl⟩ (.mv rfl) ?_
            refine VO.gcall 105 rfl ⟨_, rfl, rfl⟩ fnOk44 rfl rfl (fun W hW => dOn_ok W (hW.at (i := 105) rfl) w66_0) (fun v88 m88 hv88 => ?_)
            obtain ⟨rfl, w88_0⟩ := hv88
            refine VO.gy rfl ⟨_, rfl, rfl⟩ (.bneq rfl rfl Try.underlying4) ?_
            refine VO.y rfl (.pF rfl rfl) ?_
            refine VO.k14 0 1 2 3 4 5 10 11 13 14 15 41 49 66 ?_
            refine VC.cond rfl (fun hc89 => ?_) (fun hc89 => ?_)
            · -- FFFFFT
              exact absurd (ag_eq (ag_orph3 (base := ((d1.length : Int) - ((sectEncode d0).1.length : Int))) hP0.1 hP0.2 e0 hXb).1 (ag_orph3 (base := ((d1.length : Int) - ((sectEncode d0).1.length : Int))) hP0.1 hP0.2 e0 hXb).2.2) hc89
            · -- FFFFFF
              refine VC.skip ?_
              refine outN ?_
              refine VC.seq ?_
              refine VC.rs ?_
              refine VO.mv ?_
              refine VO.call 105 rfl fnOk44 rfl rfl (fun W hW => dOn_ok W (hW.at (i := 105) rfl) w88_0) (fun v90 m90 hv90 => ?_)
              obtain ⟨rfl, w90_0⟩ := hv90
              refine VO.mv ?_
              refine VO.dec (t := 69) rfl (fun hc91 => ?_) (fun hc91 => ?_)
              · -- FFFFFFT
                refine VO.gy rfl ⟨_, rfl, rfl⟩ (.mv rfl) ?_
                refine VO.gcall 105 rfl ⟨_, rfl, rfl⟩ fnOk46 rfl rfl (fun W hW => dPull_ok W (hW.at (i := 105) rfl) w90_0 (by assumption)) (fun v92 m92 hv92 => ?_)
                obtain ⟨rfl, w92_0⟩ := hv92
                have hfa93 := (pull_ok (show okD ((orphW ((dSync ((dWrite newD 3 ((d1).take ((((d1.length : Nat) : Int) - ((((sectEncode d0).1).length : Nat) : Int)).toNat))).1)).1) (((d1.length : Nat) : Int) - ((((sectEncode d0).1).length : Nat) : Int)) d0).1) by assumption))
                have hfa94 := (pull_w ((orphW ((dSync ((dWrite newD 3 ((d1).take ((((d1.length : Nat) : Int) - ((((sectEncode d0).1).length : Nat) : Int)).toNat))).1)).1) (((d1.length : Nat) : Int) - ((((sectEncode d0).1).length : Nat) : Int)) d0).1))
                refine VO.gy rfl ⟨_, rfl, rfl⟩ (.neq rfl rfl) ?_
                refine VO.y rfl (.pT rfl rfl) ?_
                refine VO.mv ?_
                refine VO.dec (t := 74) rfl (fun hc95 => ?_) (fun hc95 => ?_)
                · -- FFFFFFTT
                  exact absurd (ag_pull (ag_orph3 (base := ((d1.length : Int) - ((sectEncode d0).1.length : Int))) hP0.1 hP0.2 e0 hXb).2.1 ((ag_orph3 (base := ((d1.length : Int) - ((sectEncode d0).1.length : Int))) hP0.1 hP0.2 e0 hXb).1.resolve_right (fun q => by omega)).2).1 hc95
                · -- FFFFFFTF
                  refine VO.gy rfl ⟨_, rfl, rfl⟩ (.mv rfl) ?_
                  refine VO.gy rfl ⟨_, rfl, rfl⟩ (.mv rfl) ?_
                  refine VO.gy rfl ⟨_, rfl, rfl⟩ (.mv rfl) ?_
                  refine VO.gcall 105 rfl ⟨_, rfl, rfl⟩ fnOk48 rfl rfl (fun W hW => dStart_ok W (hW.at (i := 105) rfl) w92_0 d3 (by simp only [inK]; (first | omega | (simp only [List.length_append, List.length_nil, List.length_cons, List.length_take, List.length_drop] at *; omega) | (rw [hen1] at *; omega))) d4 (by simp only [inK]; (first | omega | (simp only [List.length_append, List.length_nil, List.length_cons, List.length_take, List.length_drop] at *; omega) | (rw [hen1] at *; omega))) (by assumption) (by first | omega | (simp only [List.length_append, List.length_nil, List.length_cons, List.length_take, List.length_drop] at *; omega) | (rw [hen1] at *; omega))) (fun v96 m96 hv96 => ?_)
                  obtain ⟨rfl, w96_0⟩ := hv96
                  have hfa97 := (start_ok (k := d3) (t := d4) (show okD ((dPull ((orphW ((dSync ((dWrite newD 3 ((d1).take ((((d1.length : Nat) : Int) - ((((sectEncode d0).1).length : Nat) : Int)).toNat))).1)).1) (((d1.length : Nat) : Int) - ((((sectEncode d0).1).length : Nat) : Int)) d0).1)).1) by assumption))
                  have hfa98 := (start_w ((dPull ((orphW ((dSync ((dWrite newD 3 ((d1).take ((((d1.length : Nat) : Int) - ((((sectEncode d0).1).length : Nat) : Int)).toNat))).1)).1) (((d1.length : Nat) : Int) - ((((sectEncode d0).1).length : Nat) : Int)) d0).1)).1) d3 d4)
                  refine VO.gy rfl ⟨_, rfl, rfl⟩ (.neq rfl rfl) ?_
                  refine VO.y rfl (.pF rfl rfl) ?_
                  refine VO.mv ?_
                  refine VO.dec (t := 81) rfl (fun hc99 => ?_) (fun hc99 => ?_)
                  · -- FFFFFFTFT
                    exact absurd (ag_start (base := ((d1.length : Int) - ((sectEncode d0).1.length : Int))) (k := d3) (t := d4) (ag_pull (ag_orph3 (base := ((d1.length : Int) - ((sectEncode d0).1.length : Int))) hP0.1 hP0.2 e0 hXb).2.1 ((ag_orph3 (base := ((d1.length : Int) - ((sectEncode d0).1.length : Int))) hP0.1 hP0.2 e0 hXb).1.resolve_right (fun q => by omega)).2).2.1 (ag_pull (ag_orph3 (base := ((d1.length : Int) - ((sectEncode d0).1.length : Int))) hP0.1 hP0.2 e0 hXb).2.1 ((ag_orph3 (base := ((d1.length : Int) - ((sectEncode d0).1.length : Int))) hP0.1 hP0.2 e0 hXb).1.resolve_right (fun q => by omega)).2).2.2 e2.1 e2.2 e0 hXb).1 hc99
                  · -- FFFFFFTFF
                    refine VO.gy rfl ⟨_, rfl, rfl⟩ (.mv rfl) ?_
                    refine VO.gy rfl ⟨_, rfl, rfl⟩ (.mv rfl) ?_
                    refine VO.gy rfl ⟨_, rfl, rfl⟩ (.ldA 102 rfl tk24 rfl (cellsAt_one rfl rfl)) ?_
                    refine VO.gcall 105 rfl ⟨_, rfl, rfl⟩ fnOk29 rfl rfl (fun W hW => oWrite_ok W (hW.at (i := 105) rfl) w96_0 (((d1.length : Nat) : Int) - ((((sectEncode d0).1).length : Nat) : Int)) (by simp only [inK]; (first | omega | (simp only [List.length_append, List.length_nil, List.length_cons, List.length_take, List.length_drop] at *; omega) | (rw [hen1] at *; omega))) (Rd.mono h0 (hW.out (i := 105) (j := 0) rfl rfl)) (by assumption) (by first | omega | (simp only [List.length_append, List.length_nil, List.length_cons, List.length_take, List.length_drop] at *; omega) | (rw [hen1] at *; omega))) (fun v100 m100 hv100 => ?_)
                    obtain ⟨rfl, w100_0⟩ := hv100
                    have hfa101 := (orphW_ok (base := (((d1.length : Nat) : Int) - ((((sectEncode d0).1).length : Nat) : Int))) (s := d0) (show okD ((dStart ((dPull ((orphW ((dSync ((dWrite newD 3 ((d1).take ((((d1.length : Nat) : Int) - ((((sectEncode d0).1).length : Nat) : Int)).toNat))).1)).1) (((d1.length : Nat) : Int) - ((((sectEncode d0).1).length : Nat) : Int)) d0).1)).1) d3 d4).1) by assumption))
                    have hfa102 := (orphW_w (base := (((d1.length : Nat) : Int) - ((((sectEncode d0).1).length : Nat) : Int))) (s := d0) (show okD ((dStart ((dPull ((orphW ((dSync ((dWrite newD 3 ((d1).take ((((d1.length : Nat) : Int) - ((((sectEncode d0).1).length : Nat) : Int)).toNat))).1)).1) (((d1.length : Nat) : Int) - ((((sectEncode d0).1).length : Nat) : Int)) d0).1)).1) d3 d4).1) by assumption))
                    refine VO.gy rfl ⟨_, rfl, rfl⟩ (.neq rfl rfl) ?_
                    refine VO.y rfl (.pF rfl rfl) ?_
                    refine VO.keep [105, 103, 102, 0] [(105, m100), (103, m3), (102, mone g1 (.cells [Value.int .i64 (d0.1), Value.int .i64 (d0.2.1), Value.slice p0_A2 (d0.2.2.length) (p0_c2)].toArray 24 (0, 0))), (0, wm W)] (by kernel_rfl) ?_
                    refine VO.k15 0 1 2 3 4 5 10 11 13 14 15 41 49 66 87 ?_
                    refine VC.cond rfl (fun hc103 => ?_) (fun hc103 => ?_)
                    · -- FFFFFFTFFT
                      exact absurd (ag_start (base := ((d1.length : Int) - ((sectEncode d0).1.length : Int))) (k := d3) (t := d4) (ag_pull (ag_orph3 (base := ((d1.length : Int) - ((sectEncode d0).1.length : Int))) hP0.1 hP0.2 e0 hXb).2.1 ((ag_orph3 (base := ((d1.length : Int) - ((sectEncode d0).1.length : Int))) hP0.1 hP0.2 e0 hXb).1.resolve_right (fun q => by omega)).2).2.1 (ag_pull (ag_orph3 (base := ((d1.length : Int) - ((sectEncode d0).1.length : Int))) hP0.1 hP0.2 e0 hXb).2.1 ((ag_orph3 (base := ((d1.length : Int) - ((sectEncode d0).1.length : Int))) hP0.1 hP0.2 e0 hXb).1.resolve_right (fun q => by omega)).2).2.2 e2.1 e2.2 e0 hXb).2.1 hc103
                    · -- FFFFFFTFFF
                      refine VC.skip ?_
                      refine outN ?_
                      refine VC.rs ?_
                      refine VO.mv ?_
                      refine VO.call 105 rfl fnOk30 rfl rfl (fun W hW => dDurable_ok W (hW.at (i := 105) rfl) w100_0 3 (by simp only [inK]; (first | omega | (simp only [List.length_append, List.length_nil, List.length_cons, List.length_take, List.length_drop] at *; omega) | (rw [hen1] at *; omega))) (by first | omega | (simp only [List.length_append, List.length_nil, List.length_cons, List.length_take, List.length_drop] at *; omega) | (rw [hen1] at *; omega))) (fun v104 m104 hv104 => ?_)
                      obtain ⟨s104_0, p104_0, p104_1, rfl, hS104, f104_0, w104_0⟩ := hv104
                      refine VO.inv _ (fun _ h => h.parts (i := 105) rfl hS104 [205, 206]) ?_
                      have hfa107 := (durable_size ((orphW ((dStart ((dPull ((orphW ((dSync ((dWrite newD 3 ((d1).take ((((d1.length : Nat) : Int) - ((((sectEncode d0).1).length : Nat) : Int)).toNat))).1)).1) (((d1.length : Nat) : Int) - ((((sectEncode d0).1).length : Nat) : Int)) d0).1)).1) d3 d4).1) (((d1.length : Nat) : Int) - ((((sectEncode d0).1).length : Nat) : Int)) d0).1) 3)
                      obtain ⟨A104_0, c104_0, eq104_0, l104_0, k104_0⟩ := f104_0.slice
                      subst eq104_0
                      simp only [maxLen] at k104_0
                      refine VO.mv ?_
                      refine VO.callN 208 rfl fnOk21 rfl (fun W hW => SameBytes_ok W (OwnL.rd (Ow.ownl f104_0 rfl mnil) (hW.at (i := 205) rfl) (mle_nil _)) (Rd.mono h1 (hW.at (i := 0) rfl))) (fun v108 m108 hv108 => ?_)
                      subst hv108
                      refine VO.as ?_
                      refine VO.k15 0 1 2 3 4 5 10 11 13 14 15 41 49 66 87 ?_
                      refine VC.ret ?_
                      refine ⟨_, _, res_run (rs := [.tmp 10]) rfl (.tmp rfl .nil), fun W_ hI => out_of (l := []) hI [] rfl rfl (mle_refl _) (fun hS_ => ?_)⟩
                      dsimp only [packV]
                      all_goals (first | rfl | (exact congrArg Value.bool (decide_eq_true (by rw [(ag_start (base := ((d1.length : Int) - ((sectEncode d0).1.length : Int))) (k := d3) (t := d4) (ag_pull (ag_orph3 (base := ((d1.length : Int) - ((sectEncode d0).1.length : Int))) hP0.1 hP0.2 e0 hXb).2.1 ((ag_orph3 (base := ((d1.length : Int) - ((sectEncode d0).1.length : Int))) hP0.1 hP0.2 e0 hXb).1.resolve_right (fun q => by omega)).2).2.1 (ag_pull (ag_orph3 (base := ((d1.length : Int) - ((sectEncode d0).1.length : Int))) hP0.1 hP0.2 e0 hXb).2.1 ((ag_orph3 (base := ((d1.length : Int) - ((sectEncode d0).1.length : Int))) hP0.1 hP0.2 e0 hXb).1.resolve_right (fun q => by omega)).2).2.2 e2.1 e2.2 e0 hXb).2.2, hX1]; exact hX.symm))))
              · -- FFFFFFF
                exact absurd ⟨(ag_orph3 (base := ((d1.length : Int) - ((sectEncode d0).1.length : Int))) hP0.1 hP0.2 e0 hXb).2.2, ((ag_orph3 (base := ((d1.length : Int) - ((sectEncode d0).1.length : Int))) hP0.1 hP0.2 e0 hXb).1.resolve_right (fun q => by omega)).2⟩ hc91
set_option maxHeartbeats 4000000 in
theorem orphanTorn_ok (W : World) {v0 : Value} {d0 : List DSection} (h0 : Rd (.sl TSection) (wm W) [v0] d0) (d1 : Int) (h1 : inK .i64 d1) (d2 : Int) (h2 : inK .i64 d2) (d3 : Int) (h3 : inK .i64 d3) (d4 : Int) (h4 : inK .i64 d4) : CallR Try.prog 6 [v0, .int .i64 d1, .int .i64 d2, .int .i64 d3, .int .i64 d4] W (mnil) (fun v m' => v = .bool true) := by
  obtain ⟨A0, c0, rfl, l0, k0⟩ := h0.slice
  simp only [maxLen] at k0
  have h1' := h1; simp only [inK] at h1'
  have h2' := h2; simp only [inK] at h2'
  have h3' := h3; simp only [inK] at h3'
  have h4' := h4; simp only [inK] at h4'
  refine CallR.ofA (n := 136) Try.func6 rfl rfl rfl ?_
  refine VC.rs ?_
  refine VO.as ?_
  refine VO.k6 0 1 2 3 4 10 ?_
  refine VC.seq ?_
  refine VC.rs ?_
  refine VO.callN 101 rfl fnOk11 rfl (fun W hW => lives19_ok W ) (fun v1 m1 hv1 => ?_)
  subst hv1
  refine VO.y rfl (.not rfl) ?_
  refine VO.k7 0 1 2 3 4 10 23 ?_
  refine VC.condF rfl ?_
  refine VC.skip ?_
  refine outN ?_
  refine VC.seq ?_
  refine VC.rs ?_
  refine VO.mv ?_
  refine VO.y rfl (.lenS rfl tsl41) ?_
  refine VO.y rfl (.gtr rfl rfl) ?_
  refine VO.mv ?_
  refine VO.dec (t := 27) rfl (fun hc2 => ?_) (fun hc2 => ?_)
  · -- T
    refine VO.gN ?_
    refine VO.gN ?_
    refine VO.y rfl (.pT rfl rfl) ?_
    refine VO.mv ?_
    refine VO.gN ?_
    refine VO.gN ?_
    refine VO.y rfl (.pT rfl rfl) ?_
    refine VO.keep [0] [(0, wm W)] (by kernel_rfl) ?_
    refine VO.k8 0 1 2 3 4 10 23 34 ?_
    refine VC.condT rfl ?_
    refine VC.rs ?_
    refine VO.as ?_
    refine VO.k8 0 1 2 3 4 10 23 34 ?_
    refine VC.ret ?_
    refine outR ?_
    refine ⟨_, _, res_run (rs := [.tmp 10]) rfl (.tmp rfl .nil), fun W_ hI => out_of (l := []) hI [] rfl rfl (mle_refl _) (fun hS_ => ?_)⟩
    dsimp only [packV]
    all_goals (first | rfl | (simp [*]; done))
  · -- F
    refine VO.gy rfl ⟨_, rfl, rfl⟩ (.mv rfl) ?_
    refine VO.gy rfl ⟨_, rfl, rfl⟩ (.lss rfl rfl) ?_
    refine VO.y rfl (.pF rfl rfl) ?_
    refine VO.mv ?_
    refine VO.dec (t := 31) rfl (fun hc3 => ?_) (fun hc3 => ?_)
    · -- FT
      refine VO.gN ?_
      refine VO.gN ?_
      refine VO.y rfl (.pT rfl rfl) ?_
      refine VO.keep [0] [(0, wm W)] (by kernel_rfl) ?_
      refine VO.k8 0 1 2 3 4 10 23 34 ?_
      refine VC.condT rfl ?_
      refine VC.rs ?_
      refine VO.as ?_
      refine VO.k8 0 1 2 3 4 10 23 34 ?_
      refine VC.ret ?_
      refine outR ?_
      refine ⟨_, _, res_run (rs := [.tmp 10]) rfl (.tmp rfl .nil), fun W_ hI => out_of (l := []) hI [] rfl rfl (mle_refl _) (fun hS_ => ?_)⟩
      dsimp only [packV]
      all_goals (first | rfl | (simp [*]; done))
    · -- FF
      refine VO.gy rfl ⟨_, rfl, rfl⟩ (.mv rfl) ?_
      refine VO.gy rfl ⟨_, rfl, rfl⟩ (.lss rfl rfl) ?_
      refine VO.y rfl (.pF rfl rfl) ?_
      refine VO.keep [0] [(0, wm W)] (by kernel_rfl) ?_
      refine VO.k8 0 1 2 3 4 10 23 34 ?_
      refine VC.cond rfl (fun hc4 => ?_) (fun hc4 => ?_)
      · -- FFT
        refine VC.rs ?_
        refine VO.as ?_
        refine VO.k8 0 1 2 3 4 10 23 34 ?_
        refine VC.ret ?_
        refine outR ?_
        refine ⟨_, _, res_run (rs := [.tmp 10]) rfl (.tmp rfl .nil), fun W_ hI => out_of (l := []) hI [] rfl rfl (mle_refl _) (fun hS_ => ?_)⟩
        dsimp only [packV]
        all_goals (first | rfl | (simp [*]; done))
      · -- FFF
        refine VC.skip ?_
        refine outN ?_
        refine VC.rs ?_
        refine VO.as ?_
        refine VO.k9 0 1 2 3 4 10 11 23 34 ?_
        refine VC.rs ?_
        refine VO.as ?_
        refine VO.k10 0 1 2 3 4 10 11 12 23 34 ?_
        refine VC.rs ?_
        refine VO.as ?_
        refine VO.keep [0] [(0, wm W)] (by kernel_rfl) ?_
        refine VO.k11 0 1 2 3 4 10 11 12 13 23 34 ?_
        refine VC.seq ?_
        refine VC.rs ?_
        refine VO.as ?_
        refine VO.k12 0 1 2 3 4 10 11 12 13 14 23 34 ?_
        refine VC.block ?_
        refine VC.inv ((105, mnil) :: _) (fun _ h => h.nilc 105) ?_
        refine VC.inv ((106, mnil) :: _) (fun _ h => h.nilc 106) ?_
        refine VC.loop (G := Nat × (List UInt8) × (Option Addr) × Nat × Mem × (List Int) × (Option Addr) × Nat × Mem × Int) (fun g => [(11, Value.slice (g.2.2.1) ((g.2.1).length) ((g.2.2.2.1))), (12, Value.slice (g.2.2.2.2.2.2.1) ((g.2.2.2.2.2.1).length) ((g.2.2.2.2.2.2.2.1))), (13, Value.int .i64 ((g.2.2.2.2.2.2.2.2.2))), (14, Value.int .i64 ((((g.1) : Nat) : Int))), (0, Value.slice A0 (d0.length) (c0)), (1, Value.int .i64 (d1)), (2, Value.int .i64 (d2)), (3, Value.int .i64 (d3)), (4, Value.int .i64 (d4)), (23, Value.bool false), (34, Value.bool (decide (d4 < 0)))]) (fun g => [(106, (g.2.2.2.2.2.2.2.2.1)), (105, (g.2.2.2.2.1)), (0, wm W)]) (fun g => ((g.1) ≤ d0.length) ∧ ((g.2.1) = sectEncs (d0.take (g.1))) ∧ (riseS 0 (d0.take (g.1)) ∧ lastEp 0 (d0.take (g.1)) = (g.2.2.2.2.2.2.2.2.2)) ∧ (endsOk d0 (g.2.2.2.2.2.1) (g.1)) ∧ (∀ s ∈ d0.take (g.1), sectCheck s = 0 ∧ smallS s) ∧ (OwnL .byte (g.2.2.2.2.1) mnil (.slice (g.2.2.1) (g.2.1).length (g.2.2.2.1)) (g.2.1)) ∧ (OwnL (.int .i64) (g.2.2.2.2.2.2.2.2.1) mnil (.slice (g.2.2.2.2.2.2.1) (g.2.2.2.2.2.1).length (g.2.2.2.2.2.2.2.1)) (g.2.2.2.2.2.1))) (fun g => d0.length - (g.1)) (0, [], none, 0, mnil, [], none, 0, mnil, 0) (⟨by (dsimp only; omega), by rfl, by exact ⟨trivial, rfl⟩, by exact endsOk_nil, by (intro s_ h_; cases h_), (OwnL.nil .byte mnil mnil), (OwnL.nil (.int .i64) mnil mnil)⟩) ⟨⟨rfl, rfl, rfl, rfl, rfl, rfl, rfl, rfl, rfl, rfl, rfl, trivial⟩, fun _ h => h.sub [106, 105, 0]⟩ ?_
        rintro ⟨i, b, b_A, b_c, b_m, ends, ends_A, ends_c, ends_m, last⟩ ⟨hi, hb, hr, he, hsm, h_b, h_ends⟩
        replace hi : i ≤ d0.length := hi
        replace hb : b = sectEncs (d0.take i) := hb
        replace hr : riseS 0 (d0.take i) ∧ lastEp 0 (d0.take i) = last := hr
        replace he : endsOk d0 ends i := he
        replace hsm : ∀ s ∈ d0.take i, sectCheck s = 0 ∧ smallS s := hsm
        replace h_b : OwnL .byte b_m mnil (.slice b_A b.length b_c) b := h_b
        replace h_ends : OwnL (.int .i64) ends_m mnil (.slice ends_A ends.length ends_c) ends := h_ends
        show VC _ _ _ _ _ [(11, Value.slice b_A (b.length) (b_c)), (12, Value.slice ends_A (ends.length) (ends_c)), (13, Value.int .i64 (last)), (14, Value.int .i64 (((i : Nat) : Int))), (0, Value.slice A0 (d0.length) (c0)), (1, Value.int .i64 (d1)), (2, Value.int .i64 (d2)), (3, Value.int .i64 (d3)), (4, Value.int .i64 (d4)), (23, Value.bool false), (34, Value.bool (decide (d4 < 0)))] [(106, ends_m), (105, b_m), (0, wm W)]
        have l_b : b.length ≤ b_c := by obtain ⟨_, _, he, hl, _⟩ := h_b.slice; simp only [Value.slice.injEq] at he; omega
        have k_b : b_c ≤ 9223372036854775807 := by obtain ⟨_, _, he, _, hl⟩ := h_b.slice; simp only [Value.slice.injEq, maxLen] at he hl; omega
        have l_ends : ends.length ≤ ends_c := by obtain ⟨_, _, he, hl, _⟩ := h_ends.slice; simp only [Value.slice.injEq] at he; omega
        have k_ends : ends_c ≤ 9223372036854775807 := by obtain ⟨_, _, he, _, hl⟩ := h_ends.slice; simp only [Value.slice.injEq, maxLen] at he hl; omega
        have hbl := sects_len hsm; rw [← hb, List.length_take] at hbl
        refine VC.seq ?_
        refine VC.rs ?_
        refine VO.mv ?_
        refine VO.mv ?_
        refine VO.y rfl (.lenS rfl tsl41) ?_
        refine VO.y rfl (.lss rfl rfl) ?_
        refine VO.k12 0 1 2 3 4 11 12 13 14 23 34 38 ?_
        refine VC.cond rfl (fun hc7 => ?_) (fun hc7 => ?_)
        · -- FFFT
          refine VC.skip ?_
          refine outN ?_
          refine VC.seq ?_
          refine VC.block ?_
          refine VC.seq ?_
          refine VC.rs ?_
          refine VO.mv ?_
          refine VO.mv ?_
          obtain ⟨x8, hx8⟩ : ∃ z_, (d0)[i]? = some z_ := ⟨_, List.getElem?_eq_getElem (by first | omega | (simp only [List.length_append, List.length_nil, List.length_cons, List.length_take, List.length_drop] at *; omega) | (have h_ := he.1; omega))⟩
          obtain ⟨gg8, oo8, ec8, ea8, hce8, hre8⟩ := h0.elem hx8
          cases ea8
          obtain ⟨q8_A2, q8_c2, rfl, q8_0, q8_1, q8_2⟩ := open_Section (x0 := x8.1) (x1 := x8.2.1) (x2 := x8.2.2) hre8
          simp only [inK] at q8_0
          simp only [inK] at q8_1
          have q8_r2 := Rd.room q8_2
          refine VO.y rfl (.ixI i rfl rfl tsl41 rfl (by first | omega | (simp only [List.length_append, List.length_nil, List.length_cons, List.length_take, List.length_drop] at *; omega) | (have h_ := he.1; omega))) ?_
          refine VO.y rfl (.ldA 0 rfl tk24 rfl hce8) ?_
          refine VO.callN 109 rfl fnOk13 rfl (fun W hW => small19_ok W (Rd.mono hre8 (hW.at (i := 0) rfl))) (fun v9 m9 hv9 => ?_)
          subst hv9
          refine VO.y rfl (.notD rfl) ?_
          refine VO.mv ?_
          refine VO.dec (t := 47) rfl (fun hc10 => ?_) (fun hc10 => ?_)
          · -- FFFTT
            refine VO.gN ?_
            refine VO.gN ?_
            refine VO.gN ?_
            refine VO.gN ?_
            refine VO.gN ?_
            refine VO.gN ?_
            refine VO.gN ?_
            refine VO.y rfl (.pT rfl rfl) ?_
            refine VO.keep [106, 105, 0] [(106, ends_m), (105, b_m), (0, wm W)] (by kernel_rfl) ?_
            refine VO.k13 0 1 2 3 4 11 12 13 14 23 34 38 55 ?_
            refine VC.condT rfl ?_
            refine VC.rs ?_
            refine VO.as ?_
            refine VO.k14 0 1 2 3 4 10 11 12 13 14 23 34 38 55 ?_
            refine VC.ret ?_
            refine outR ?_
            refine outBR ?_
            refine outR ?_
            refine outR ?_
            refine outBR ?_
            refine outR ?_
            refine ⟨_, _, res_run (rs := [.tmp 10]) rfl (.tmp rfl .nil), fun W_ hI => out_of (l := []) hI [] rfl rfl (mle_refl _) (fun hS_ => ?_)⟩
            dsimp only [packV]
            all_goals (first | rfl | (simp [*]; done))
          · -- FFFTF
            refine VO.gy rfl ⟨_, rfl, rfl⟩ (.mv rfl) ?_
            refine VO.gy rfl ⟨_, rfl, rfl⟩ (.mv rfl) ?_
            refine VO.gy rfl ⟨_, rfl, rfl⟩ (.ixI i rfl rfl tsl41 rfl (by first | omega | (simp only [List.length_append, List.length_nil, List.length_cons, List.length_take, List.length_drop] at *; omega) | (have h_ := he.1; omega))) ?_
            refine VO.gy rfl ⟨_, rfl, rfl⟩ (.fa rfl tst24 rfl) ?_
            refine VO.gy rfl ⟨_, rfl, rfl⟩ (.ld1 0 rfl tk3 rfl (hce8.at1 (j := 0) rfl)) ?_
            refine VO.gy rfl ⟨_, rfl, rfl⟩ (.mv rfl) ?_
            refine VO.gy rfl ⟨_, rfl, rfl⟩ (.leq rfl rfl) ?_
            refine VO.y rfl (.pF rfl rfl) ?_
            refine VO.keep [106, 105, 0] [(106, ends_m), (105, b_m), (0, wm W)] (by kernel_rfl) ?_
            refine VO.k13 0 1 2 3 4 11 12 13 14 23 34 38 55 ?_
            refine VC.cond rfl (fun hc12 => ?_) (fun hc12 => ?_)
            · -- FFFTFT
              refine VC.rs ?_
              refine VO.as ?_
              refine VO.k14 0 1 2 3 4 10 11 12 13 14 23 34 38 55 ?_
              refine VC.ret ?_
              refine outR ?_
              refine outBR ?_
              refine outR ?_
              refine outR ?_
              refine outBR ?_
              refine outR ?_
              refine ⟨_, _, res_run (rs := [.tmp 10]) rfl (.tmp rfl .nil), fun W_ hI => out_of (l := []) hI [] rfl rfl (mle_refl _) (fun hS_ => ?_)⟩
              dsimp only [packV]
              all_goals (first | rfl | (simp [*]; done))
            · -- FFFTFF
              refine VC.skip ?_
              refine outN ?_
              refine VC.rs ?_
              refine VO.mv ?_
              refine VO.mv ?_
              refine VO.y rfl (.ixI i rfl rfl tsl41 rfl (by first | omega | (simp only [List.length_append, List.length_nil, List.length_cons, List.length_take, List.length_drop] at *; omega) | (have h_ := he.1; omega))) ?_
              refine VO.y rfl (.ldA 0 rfl tk24 rfl hce8) ?_
              refine VO.callN 114 rfl fnOk16 rfl (fun W hW => sectEncode_ok W (Rd.mono hre8 (hW.at (i := 0) rfl))) (fun v14 m14 hv14 => ?_)
              obtain ⟨s14_0, rfl, f14_0⟩ := hv14
              have hfa15 := sectEncode_len x8
              obtain ⟨A14_0, c14_0, eq14_0, l14_0, k14_0⟩ := f14_0.slice
              subst eq14_0
              simp only [maxLen] at k14_0
              refine VO.mv ?_
              refine VO.y rfl (.ext rfl rfl) ?_
              refine VO.y rfl (.ext rfl rfl) ?_
              refine VO.as ?_
              refine VO.as ?_
              refine VO.k15 0 1 2 3 4 11 12 13 14 15 16 23 34 38 55 ?_
              refine VC.seq ?_
              refine VC.rs ?_
              refine VO.mv ?_
              refine VO.y rfl (.neq rfl rfl) ?_
              refine VO.k16 0 1 2 3 4 11 12 13 14 15 16 23 34 38 55 65 ?_
              refine VC.cond rfl (fun hc16 => ?_) (fun hc16 => ?_)
              · -- FFFTFFT
                refine VC.rs ?_
                refine VO.as ?_
                refine VO.keep [114, 106, 105, 0] [(114, m14), (106, ends_m), (105, b_m), (0, wm W)] (by kernel_rfl) ?_
                refine VO.k17 0 1 2 3 4 10 11 12 13 14 15 16 23 34 38 55 65 ?_
                refine VC.ret ?_
                refine outR ?_
                refine outBR ?_
                refine outR ?_
                refine outR ?_
                refine outBR ?_
                refine outR ?_
                refine ⟨_, _, res_run (rs := [.tmp 10]) rfl (.tmp rfl .nil), fun W_ hI => out_of (l := []) hI [] rfl rfl (mle_refl _) (fun hS_ => ?_)⟩
                dsimp only [packV]
                all_goals (first | rfl | (simp [*]; done))
              · -- FFFTFFF
                refine VC.skip ?_
                refine outN ?_
                refine VC.rs ?_
                refine VO.mv ?_
                refine VO.mv ?_
                refine VO.y rfl (.ixI i rfl rfl tsl41 rfl (by first | omega | (simp only [List.length_append, List.length_nil, List.length_cons, List.length_take, List.length_drop] at *; omega) | (have h_ := he.1; omega))) ?_
                refine VO.y rfl (.fa rfl tst24 rfl) ?_
                refine VO.y rfl (.ld1 0 rfl tk3 rfl (hce8.at1 (j := 0) rfl)) ?_
                refine VO.as ?_
                refine VO.keep [114, 106, 105, 0] [(114, m14), (106, ends_m), (105, b_m), (0, wm W)] (by kernel_rfl) ?_
                refine VO.k16 0 1 2 3 4 11 12 13 14 15 16 23 34 38 55 65 ?_
                refine VC.rs ?_
                refine VO.mv ?_
                refine VO.mv ?_
                obtain ⟨mo18, cs18, hM18, hA18, hC18⟩ := h_b
                obtain ⟨all18, hS18, hR18⟩ := Rd.srcI (P := Try.prog) ((OwnL.rd (Ow.ownl f14_0 rfl mnil) (mle_refl _) (mle_nil _))) Try.underlying25
                refine VO.app 105 rfl rfl rfl tsl25 tz5 rfl rfl hM18 hA18 (hS18 _ 114 rfl) hR18.nice (by simp only [maxLen]; (first | omega | (simp only [List.length_append, List.length_nil, List.length_cons, List.length_take, List.length_drop] at *; omega) | (have h_ := he.1; omega))) (by first | omega | (simp only [List.length_append, List.length_nil, List.length_cons, List.length_take, List.length_drop] at *; omega) | (have h_ := he.1; omega)) (by decide) (fun v18 m18 hN18 => ?_)
                have ho18 : OwnL .byte m18 mnil v18 (b ++ ((sectEncode x8).1)) := OwnL.more hC18 hN18 (All2c.mono hR18 fun _ _ h => Rd.flat rfl h _)
                obtain ⟨A18, c18, rfl, l18, k18⟩ := ho18.slice
                simp only [maxLen] at k18
                refine VO.as ?_
                refine VO.k16 0 1 2 3 4 11 12 13 14 15 16 23 34 38 55 65 ?_
                refine VC.reg ?_
                refine VO.mv ?_
                refine VO.mv ?_
                refine VO.y rfl (.lenS rfl tsl25) ?_
                refine VO.bsl (cs := [Value.int .i64 ((((b ++ ((sectEncode x8).1)).length : Nat) : Int))]) 120 rfl rfl tsl58 tz3 rfl rfl (fun g19 => ?_)
                obtain ⟨mo21, cs21, hM21, hA21, hC21⟩ := h_ends
                refine VO.app 106 rfl rfl rfl tsl58 tz3 rfl rfl hM21 hA21 (.row 120 _ _ _ 1 1 _ _ Try.underlying58 rfl (cellsAt_one rfl rfl)) (by simp [Value.oneCell']) (by simp only [maxLen]; (first | omega | (simp only [List.length_append, List.length_nil, List.length_cons, List.length_take, List.length_drop] at *; omega) | (have h_ := he.1; omega))) (by first | omega | (simp only [List.length_append, List.length_nil, List.length_cons, List.length_take, List.length_drop] at *; omega) | (have h_ := he.1; omega)) (by decide) (fun v21 m21 hN21 => ?_)
                have ho21 : OwnL (.int .i64) m21 mnil v21 (ends ++ [(((b ++ ((sectEncode x8).1)).length : Nat) : Int)]) := OwnL.one hC21 hN21 (show Rd (.int .i64) _ [_] _ from ⟨rfl, by simp only [inK]; (first | omega | (simp only [List.length_append, List.length_nil, List.length_cons, List.length_take, List.length_drop] at *; omega) | (have h_ := he.1; omega))⟩)
                obtain ⟨A21, c21, rfl, l21, k21⟩ := ho21.slice
                simp only [maxLen] at k21
                refine VO.as ?_
                refine VO.k16 0 1 2 3 4 11 12 13 14 15 16 23 34 38 55 65 ?_
                refine outBN ?_
                refine outN ?_
                refine VC.reg ?_
                refine VO.mv ?_
                refine VO.y rfl (.add (c := ((i + 1 : Nat) : Int)) rfl rfl (by omega) ⟨by first | omega | (simp only [List.length_append, List.length_nil, List.length_cons, List.length_take, List.length_drop] at *; omega) | (have h_ := he.1; omega), by first | omega | (simp only [List.length_append, List.length_nil, List.length_cons, List.length_take, List.length_drop] at *; omega) | (have h_ := he.1; omega)⟩) ?_
                refine VO.as ?_
                refine VO.keep [114, 106, 105, 0] [(114, m14), (106, m21), (105, m18), (0, wm W)] (by kernel_rfl) ?_
                refine VO.k16 0 1 2 3 4 11 12 13 14 15 16 23 34 38 55 65 ?_
                exact outN ⟨⟨i + 1, b ++ ((sectEncode x8).1), A18, c18, m18, ends ++ [(((b ++ ((sectEncode x8).1)).length : Nat) : Int)], A21, c21, m21, x8.1⟩, ⟨by (dsimp only; omega), by exact torn_b hb ‹d0[i]? = some _› (by assumption), by exact torn_r hr ‹d0[i]? = some _› (by assumption) (by omega), by exact endsOk_next he hb ‹d0[i]? = some _› (by assumption), by exact all_next hsm ‹d0[i]? = some _› (torn_s (by assumption) (by assumption)), ho18, ho21⟩, by first | omega | (simp only [List.length_append, List.length_nil, List.length_cons, List.length_take, List.length_drop] at *; omega) | (have h_ := he.1; omega), ⟨⟨rfl, rfl, rfl, rfl, rfl, rfl, rfl, rfl, rfl, rfl, rfl, trivial⟩, fun _ h => Inv.sub h [106, 105, 0]⟩⟩
        · -- FFFF
          refine VC.exit ?_
          refine outE ?_
          refine outE ?_
          refine outBB ?_
          refine outN ?_
          refine VC.rs ?_
          refine VO.mv ?_
          refine VO.mv ?_
          refine VO.y rfl (.lenS rfl tsl25) ?_
          refine VO.y rfl (.add (c := ((b.length + 1 : Nat) : Int)) rfl rfl (by omega) ⟨by first | omega | (simp only [List.length_append, List.length_nil, List.length_cons, List.length_take, List.length_drop] at *; omega) | (have h_ := he.1; omega), by first | omega | (simp only [List.length_append, List.length_nil, List.length_cons, List.length_take, List.length_drop] at *; omega) | (have h_ := he.1; omega)⟩) ?_
          refine VO.callN 122 rfl fnOk32 rfl (fun W hW => pick_ok W d1 (by simp only [inK]; (first | omega | (simp only [List.length_append, List.length_nil, List.length_cons, List.length_take, List.length_drop] at *; omega) | (have h_ := he.1; omega))) ((b.length + 1 : Nat) : Int) (by simp only [inK]; (first | omega | (simp only [List.length_append, List.length_nil, List.length_cons, List.length_take, List.length_drop] at *; omega) | (have h_ := he.1; omega))) (by first | omega | (simp only [List.length_append, List.length_nil, List.length_cons, List.length_take, List.length_drop] at *; omega) | (have h_ := he.1; omega))) (fun v22 m22 hv22 => ?_)
          subst hv22
          have hfa23 := pickI_bounds d1 ((b.length + 1 : Nat) : Int) (by omega)
          refine VO.as ?_
          refine VO.keep [106, 105, 0] [(106, ends_m), (105, b_m), (0, wm W)] (by kernel_rfl) ?_
          refine VO.k13 0 1 2 3 4 11 12 13 14 17 23 34 38 ?_
          refine VC.rs ?_
          refine VO.as ?_
          refine VO.as ?_
          refine VO.k15 0 1 2 3 4 11 12 13 14 17 18 19 23 34 38 ?_
          refine VC.seq ?_
          refine VC.block ?_
          refine VC.loop (G := Nat × Int) (fun g => [(18, Value.int .i64 ((((g.1) : Nat) : Int))), (19, Value.int .i64 ((g.2))), (0, Value.slice A0 (d0.length) (c0)), (1, Value.int .i64 (d1)), (2, Value.int .i64 (d2)), (3, Value.int .i64 (d3)), (4, Value.int .i64 (d4)), (11, Value.slice b_A (b.length) (b_c)), (12, Value.slice ends_A (ends.length) (ends_c)), (13, Value.int .i64 (last)), (14, Value.int .i64 (((i : Nat) : Int))), (17, Value.int .i64 (pickI d1 ((b.length + 1 : Nat) : Int))), (23, Value.bool false), (34, Value.bool (decide (d4 < 0))), (38, Value.bool (decide (((i : Nat) : Int) < ((d0.length : Nat) : Int))))]) (fun g => [(106, ends_m), (105, b_m), (0, wm W)]) (fun g => ((g.1) ≤ d0.length) ∧ ((g.2) = ((sectEncs (d0.take (g.1))).length : Int)) ∧ ((g.2) ≤ pickI d1 ((b.length + 1 : Nat) : Int))) (fun g => d0.length - (g.1)) (0, 0) (⟨by omega, by rfl, by omega⟩) ⟨⟨rfl, rfl, rfl, rfl, rfl, rfl, rfl, rfl, rfl, rfl, rfl, rfl, rfl, rfl, rfl, trivial⟩, fun _ h => h.sub [106, 105, 0]⟩ ?_
          rintro ⟨n, good⟩ ⟨hn, hg, hga⟩
          replace hn : n ≤ d0.length := hn
          replace hg : good = ((sectEncs (d0.take n)).length : Int) := hg
          replace hga : good ≤ pickI d1 ((b.length + 1 : Nat) : Int) := hga
          show VC _ _ _ _ _ [(18, Value.int .i64 (((n : Nat) : Int))), (19, Value.int .i64 (good)), (0, Value.slice A0 (d0.length) (c0)), (1, Value.int .i64 (d1)), (2, Value.int .i64 (d2)), (3, Value.int .i64 (d3)), (4, Value.int .i64 (d4)), (11, Value.slice b_A (b.length) (b_c)), (12, Value.slice ends_A (ends.length) (ends_c)), (13, Value.int .i64 (last)), (14, Value.int .i64 (((i : Nat) : Int))), (17, Value.int .i64 (pickI d1 ((b.length + 1 : Nat) : Int))), (23, Value.bool false), (34, Value.bool (decide (d4 < 0))), (38, Value.bool (decide (((i : Nat) : Int) < ((d0.length : Nat) : Int))))] [(106, ends_m), (105, b_m), (0, wm W)]
          refine VC.seq ?_
          refine VC.rs ?_
          refine VO.mv ?_
          refine VO.mv ?_
          refine VO.y rfl (.lenS rfl tsl41) ?_
          refine VO.y rfl (.lss rfl rfl) ?_
          refine VO.mv ?_
          refine VO.dec (t := 88) rfl (fun hc24 => ?_) (fun hc24 => ?_)
          · -- FFFFT
            refine VO.gy rfl ⟨_, rfl, rfl⟩ (.mv rfl) ?_
            refine VO.gy rfl ⟨_, rfl, rfl⟩ (.mv rfl) ?_
            obtain ⟨x25, hx25⟩ : ∃ z_, (ends)[n]? = some z_ := ⟨_, List.getElem?_eq_getElem (by first | omega | (simp only [List.length_append, List.length_nil, List.length_cons, List.length_take, List.length_drop] at *; omega) | (have h_ := he.1; omega))⟩
            obtain ⟨gg25, oo25, ec25, ea25, hce25, hre25⟩ := h_ends.elem hx25
            cases ea25
            obtain ⟨rfl, q25⟩ := hre25; simp only [inK] at q25
            refine VO.gy rfl ⟨_, rfl, rfl⟩ (.ixI n rfl rfl tsl58 rfl (by first | omega | (simp only [List.length_append, List.length_nil, List.length_cons, List.length_take, List.length_drop] at *; omega) | (have h_ := he.1; omega))) ?_
            refine VO.gy rfl ⟨_, rfl, rfl⟩ (.ld1 106 rfl tk3 rfl hce25) ?_
            refine VO.gy rfl ⟨_, rfl, rfl⟩ (.mv rfl) ?_
            refine VO.gy rfl ⟨_, rfl, rfl⟩ (.leq rfl rfl) ?_
            refine VO.y rfl (.pT rfl rfl) ?_
            refine VO.k16 0 1 2 3 4 11 12 13 14 17 18 19 23 34 38 95 ?_
            refine VC.cond rfl (fun hc26 => ?_) (fun hc26 => ?_)
            · -- FFFFTT
              refine VC.skip ?_
              refine outN ?_
              refine VC.block ?_
              refine VC.rs ?_
              refine VO.mv ?_
              refine VO.mv ?_
              refine VO.y rfl (.ixI n rfl rfl tsl58 rfl (by first | omega | (simp only [List.length_append, List.length_nil, List.length_cons, List.length_take, List.length_drop] at *; omega) | (have h_ := he.1; omega))) ?_
              refine VO.y rfl (.ld1 106 rfl tk3 rfl hce25) ?_
              refine VO.as ?_
              refine VO.keep [106, 105, 0] [(106, ends_m), (105, b_m), (0, wm W)] (by kernel_rfl) ?_
              refine VO.k16 0 1 2 3 4 11 12 13 14 17 18 19 23 34 38 95 ?_
              refine VC.reg ?_
              refine VO.mv ?_
              refine VO.y rfl (.add (c := ((n + 1 : Nat) : Int)) rfl rfl (by omega) ⟨by first | omega | (simp only [List.length_append, List.length_nil, List.length_cons, List.length_take, List.length_drop] at *; omega) | (have h_ := he.1; omega), by first | omega | (simp only [List.length_append, List.length_nil, List.length_cons, List.length_take, List.length_drop] at *; omega) | (have h_ := he.1; omega)⟩) ?_
              refine VO.as ?_
              refine VO.k16 0 1 2 3 4 11 12 13 14 17 18 19 23 34 38 95 ?_
              refine outBN ?_
              exact outN ⟨⟨n + 1, x25⟩, ⟨by omega, by exact endsOk_at he ‹ends[n]? = some _›, by omega⟩, by first | omega | (simp only [List.length_append, List.length_nil, List.length_cons, List.length_take, List.length_drop] at *; omega) | (have h_ := he.1; omega), ⟨⟨rfl, rfl, rfl, rfl, rfl, rfl, rfl, rfl, rfl, rfl, rfl, rfl, rfl, rfl, rfl, trivial⟩, fun _ h => Inv.sub h [106, 105, 0]⟩⟩
            · -- FFFFTF
              refine VC.exit ?_
              refine outE ?_
              refine outE ?_
              refine outBB ?_
              refine outN ?_
              refine VC.rs ?_
              refine VO.mv ?_
              refine VO.mv ?_
              have hs28 := (OwnL.rd h_b (mle_refl _) (mle_nil _)).pre (j := ((pickI d1 ((b.length + 1 : Nat) : Int)).toNat)) (by first | omega | (simp only [List.length_append, List.length_nil, List.length_cons, List.length_take, List.length_drop] at *; omega) | (have h_ := he.1; omega))
              refine VO.y rfl (.slHI ((pickI d1 ((b.length + 1 : Nat) : Int)).toNat) rfl rfl tsl25 (by first | omega | (simp only [List.length_append, List.length_nil, List.length_cons, List.length_take, List.length_drop] at *; omega) | (have h_ := he.1; omega)) (by first | omega | (simp only [List.length_append, List.length_nil, List.length_cons, List.length_take, List.length_drop] at *; omega) | (have h_ := he.1; omega))) ?_
              refine VO.callN 129 rfl fnOk18 rfl (fun W hW => oScan_ok W (OwnL.rd (h_b.pre (j := ((pickI d1 ((b.length + 1 : Nat) : Int)).toNat)) (by first | omega | (simp only [List.length_append, List.length_nil, List.length_cons, List.length_take, List.length_drop] at *; omega) | (have h_ := he.1; omega))) (hW.at (i := 105) rfl) (mle_nil _)) (by first | omega | (simp only [List.length_append, List.length_nil, List.length_cons, List.length_take, List.length_drop] at *; omega) | (have h_ := he.1; omega))) (fun v29 m29 hv29 => ?_)
              obtain ⟨s29_0, rfl, f29_0⟩ := hv29
              have hfa30 := scanF_bounds ((b).take ((pickI d1 ((b.length + 1 : Nat) : Int)).toNat))
              obtain ⟨A29_0, c29_0, eq29_0, l29_0, k29_0⟩ := f29_0.slice
              subst eq29_0
              simp only [maxLen] at k29_0
              refine VO.mv ?_
              refine VO.y rfl (.ext rfl rfl) ?_
              refine VO.y rfl (.ext rfl rfl) ?_
              refine VO.as ?_
              refine VO.as ?_
              refine VO.keep [129, 106, 105, 0] [(129, m29), (106, ends_m), (105, b_m), (0, wm W)] (by kernel_rfl) ?_
              refine VO.k18 0 1 2 3 4 11 12 13 14 17 18 19 20 21 23 34 38 95 ?_
              refine VC.seq ?_
              refine VC.rs ?_
              refine VO.mv ?_
              refine VO.mv ?_
              refine VO.y rfl (.neq rfl rfl) ?_
              refine VO.mv ?_
              refine VO.dec (t := 112) rfl (fun hc31 => ?_) (fun hc31 => ?_)
              · -- FFFFTFT
                exact absurd (by rw [(torn_end (at_ := pickI d1 ((b.length + 1 : Nat) : Int)) (by omega) hb hr he hn hg hga (by omega) (.inr ⟨_, ‹ends[n]? = some _›, by omega⟩))]) hc31
              · -- FFFFTFF
                refine VO.gy rfl ⟨_, rfl, rfl⟩ (.mv rfl) ?_
                refine VO.gy rfl ⟨_, rfl, rfl⟩ (.mv rfl) ?_
                refine VO.gy rfl ⟨_, rfl, rfl⟩ (.mv rfl) ?_
                have hs32 := h0.pre (j := n) (by first | omega | (simp only [List.length_append, List.length_nil, List.length_cons, List.length_take, List.length_drop] at *; omega) | (have h_ := he.1; omega))
                refine VO.gy rfl ⟨_, rfl, rfl⟩ (.slHI n rfl rfl tsl41 rfl (by first | omega | (simp only [List.length_append, List.length_nil, List.length_cons, List.length_take, List.length_drop] at *; omega) | (have h_ := he.1; omega))) ?_
                refine VO.gcallN 133 rfl ⟨_, rfl, rfl⟩ fnOk22 rfl (fun W hW => SameSections_ok W (Ow.rd f29_0 (hW.at (i := 129) rfl)) (Rd.mono hs32 (hW.at (i := 0) rfl))) (fun v33 m33 hv33 => ?_)
                subst hv33
                refine VO.gy rfl ⟨_, rfl, rfl⟩ (.notD rfl) ?_
                refine VO.y rfl (.pF rfl rfl) ?_
                refine VO.k19 0 1 2 3 4 11 12 13 14 17 18 19 20 21 23 34 38 95 119 ?_
                refine VC.cond rfl (fun hc34 => ?_) (fun hc34 => ?_)
                · -- FFFFTFFT
                  exact absurd (by rw [(torn_end (at_ := pickI d1 ((b.length + 1 : Nat) : Int)) (by omega) hb hr he hn hg hga (by omega) (.inr ⟨_, ‹ends[n]? = some _›, by omega⟩))]) hc34
                · -- FFFFTFFF
                  refine VC.skip ?_
                  refine outN ?_
                  refine VC.rs ?_
                  refine VO.mv ?_
                  refine VO.y rfl (.lenS rfl tsl41) ?_
                  refine VO.y rfl (.eql rfl rfl) ?_
                  refine VO.mv ?_
                  refine VO.dec (t := 123) rfl (fun hc35 => ?_) (fun hc35 => ?_)
                  · -- FFFFTFFFT
                    refine VO.gN ?_
                    refine VO.gN ?_
                    refine VO.gN ?_
                    refine VO.gN ?_
                    refine VO.gN ?_
                    refine VO.gN ?_
                    refine VO.gN ?_
                    refine VO.gN ?_
                    refine VO.gN ?_
                    refine VO.gN ?_
                    refine VO.gN ?_
                    refine VO.y rfl (.pT rfl rfl) ?_
                    refine VO.as ?_
                    refine VO.k20 0 1 2 3 4 10 11 12 13 14 17 18 19 20 21 23 34 38 95 119 ?_
                    refine VC.ret ?_
                    refine ⟨_, _, res_run (rs := [.tmp 10]) rfl (.tmp rfl .nil), fun W_ hI => out_of (l := []) hI [] rfl rfl (mle_refl _) (fun hS_ => ?_)⟩
                    dsimp only [packV]
                    all_goals (first | rfl | (simp [*]; done))
                  · -- FFFFTFFFF
                    refine VO.gy rfl ⟨_, rfl, rfl⟩ (.mv rfl) ?_
                    refine VO.gy rfl ⟨_, rfl, rfl⟩ (.mv rfl) ?_
                    refine VO.gy rfl ⟨_, rfl, rfl⟩ (.lenS rfl tsl41) ?_
                    refine VO.gy rfl ⟨_, rfl, rfl⟩ (.sub rfl rfl rfl ⟨by first | omega | (simp only [List.length_append, List.length_nil, List.length_cons, List.length_take, List.length_drop] at *; omega) | (have h_ := he.1; omega), by first | omega | (simp only [List.length_append, List.length_nil, List.length_cons, List.length_take, List.length_drop] at *; omega) | (have h_ := he.1; omega)⟩) ?_
                    obtain ⟨x36, hx36⟩ : ∃ z_, (d0)[(((d0.length : Nat) : Int) - 1).toNat]? = some z_ := ⟨_, List.getElem?_eq_getElem (by first | omega | (simp only [List.length_append, List.length_nil, List.length_cons, List.length_take, List.length_drop] at *; omega) | (have h_ := he.1; omega))⟩
                    obtain ⟨gg36, oo36, ec36, ea36, hce36, hre36⟩ := h0.elem hx36
                    cases ea36
                    obtain ⟨q36_A2, q36_c2, rfl, q36_0, q36_1, q36_2⟩ := open_Section (x0 := x36.1) (x1 := x36.2.1) (x2 := x36.2.2) hre36
                    simp only [inK] at q36_0
                    simp only [inK] at q36_1
                    have q36_r2 := Rd.room q36_2
                    refine VO.gy rfl ⟨_, rfl, rfl⟩ (.ixI ((((d0.length : Nat) : Int) - 1).toNat) rfl rfl tsl41 (by first | omega | (simp only [List.length_append, List.length_nil, List.length_cons, List.length_take, List.length_drop] at *; omega) | (have h_ := he.1; omega)) (by first | omega | (simp only [List.length_append, List.length_nil, List.length_cons, List.length_take, List.length_drop] at *; omega) | (have h_ := he.1; omega))) ?_
                    refine VO.gy rfl ⟨_, rfl, rfl⟩ (.ldA 0 rfl tk24 rfl hce36) ?_
                    refine VO.gy rfl ⟨_, rfl, rfl⟩ (.mv rfl) ?_
                    refine VO.gy rfl ⟨_, rfl, rfl⟩ (.mv rfl) ?_
                    refine VO.gy rfl ⟨_, rfl, rfl⟩ (.mv rfl) ?_
                    refine VO.gy rfl ⟨_, rfl, rfl⟩ (.mv rfl) ?_
                    refine VO.gcallN 137 rfl ⟨_, rfl, rfl⟩ fnOk33 rfl (fun W hW => again19_ok W (Rd.mono hre36 (hW.at (i := 0) rfl)) (OwnL.rd h_b (hW.at (i := 105) rfl) (mle_nil _)) d2 (by simp only [inK]; (first | omega | (simp only [List.length_append, List.length_nil, List.length_cons, List.length_take, List.length_drop] at *; omega) | (have h_ := he.1; omega))) d3 (by simp only [inK]; (first | omega | (simp only [List.length_append, List.length_nil, List.length_cons, List.length_take, List.length_drop] at *; omega) | (have h_ := he.1; omega))) d4 (by simp only [inK]; (first | omega | (simp only [List.length_append, List.length_nil, List.length_cons, List.length_take, List.length_drop] at *; omega) | (have h_ := he.1; omega))) (by exact (torn_last (by omega) hb hr ‹d0[_]? = some _›).1) (by exact (torn_last (by omega) hb hr ‹d0[_]? = some _›).2) (by first | omega | (simp only [List.length_append, List.length_nil, List.length_cons, List.length_take, List.length_drop] at *; omega) | (have h_ := he.1; omega)) (by first | omega | (simp only [List.length_append, List.length_nil, List.length_cons, List.length_take, List.length_drop] at *; omega) | (have h_ := he.1; omega))) (fun v37 m37 hv37 => ?_)
                    subst hv37
                    refine VO.y rfl (.pF rfl rfl) ?_
                    refine VO.as ?_
                    refine VO.k20 0 1 2 3 4 10 11 12 13 14 17 18 19 20 21 23 34 38 95 119 ?_
                    refine VC.ret ?_
                    refine ⟨_, _, res_run (rs := [.tmp 10]) rfl (.tmp rfl .nil), fun W_ hI => out_of (l := []) hI [] rfl rfl (mle_refl _) (fun hS_ => ?_)⟩
                    dsimp only [packV]
                    all_goals (first | rfl | (simp [*]; done))
          · -- FFFFF
            refine VO.gN ?_
            refine VO.gN ?_
            refine VO.gN ?_
            refine VO.gN ?_
            refine VO.gN ?_
            refine VO.gN ?_
            refine VO.y rfl (.pF rfl rfl) ?_
            refine VO.k16 0 1 2 3 4 11 12 13 14 17 18 19 23 34 38 95 ?_
            refine VC.condF rfl ?_
            refine VC.exit ?_
            refine outE ?_
            refine outE ?_
            refine outBB ?_
            refine outN ?_
            refine VC.rs ?_
            refine VO.mv ?_
            refine VO.mv ?_
            have hs38 := (OwnL.rd h_b (mle_refl _) (mle_nil _)).pre (j := ((pickI d1 ((b.length + 1 : Nat) : Int)).toNat)) (by first | omega | (simp only [List.length_append, List.length_nil, List.length_cons, List.length_take, List.length_drop] at *; omega) | (have h_ := he.1; omega))
            refine VO.y rfl (.slHI ((pickI d1 ((b.length + 1 : Nat) : Int)).toNat) rfl rfl tsl25 (by first | omega | (simp only [List.length_append, List.length_nil, List.length_cons, List.length_take, List.length_drop] at *; omega) | (have h_ := he.1; omega)) (by first | omega | (simp only [List.length_append, List.length_nil, List.length_cons, List.length_take, List.length_drop] at *; omega) | (have h_ := he.1; omega))) ?_
            refine VO.callN 139 rfl fnOk18 rfl (fun W hW => oScan_ok W (OwnL.rd (h_b.pre (j := ((pickI d1 ((b.length + 1 : Nat) : Int)).toNat)) (by first | omega | (simp only [List.length_append, List.length_nil, List.length_cons, List.length_take, List.length_drop] at *; omega) | (have h_ := he.1; omega))) (hW.at (i := 105) rfl) (mle_nil _)) (by first | omega | (simp only [List.length_append, List.length_nil, List.length_cons, List.length_take, List.length_drop] at *; omega) | (have h_ := he.1; omega))) (fun v39 m39 hv39 => ?_)
            obtain ⟨s39_0, rfl, f39_0⟩ := hv39
            have hfa40 := scanF_bounds ((b).take ((pickI d1 ((b.length + 1 : Nat) : Int)).toNat))
            obtain ⟨A39_0, c39_0, eq39_0, l39_0, k39_0⟩ := f39_0.slice
            subst eq39_0
            simp only [maxLen] at k39_0
            refine VO.mv ?_
            refine VO.y rfl (.ext rfl rfl) ?_
            refine VO.y rfl (.ext rfl rfl) ?_
            refine VO.as ?_
            refine VO.as ?_
            refine VO.keep [139, 106, 105, 0] [(139, m39), (106, ends_m), (105, b_m), (0, wm W)] (by kernel_rfl) ?_
            refine VO.k18 0 1 2 3 4 11 12 13 14 17 18 19 20 21 23 34 38 95 ?_
            refine VC.seq ?_
            refine VC.rs ?_
            refine VO.mv ?_
            refine VO.mv ?_
            refine VO.y rfl (.neq rfl rfl) ?_
            refine VO.mv ?_
            refine VO.dec (t := 112) rfl (fun hc41 => ?_) (fun hc41 => ?_)
            · -- FFFFFT
              exact absurd (by rw [(torn_end (at_ := pickI d1 ((b.length + 1 : Nat) : Int)) (by omega) hb hr he hn hg hga (by omega) (.inl (by omega)))]) hc41
            · -- FFFFFF
              refine VO.gy rfl ⟨_, rfl, rfl⟩ (.mv rfl) ?_
              refine VO.gy rfl ⟨_, rfl, rfl⟩ (.mv rfl) ?_
              refine VO.gy rfl ⟨_, rfl, rfl⟩ (.mv rfl) ?_
              have hs42 := h0.pre (j := n) (by first | omega | (simp only [List.length_append, List.length_nil, List.length_cons, List.length_take, List.length_drop] at *; omega) | (have h_ := he.1; omega))
              refine VO.gy rfl ⟨_, rfl, rfl⟩ (.slHI n rfl rfl tsl41 rfl (by first | omega | (simp only [List.length_append, List.length_nil, List.length_cons, List.length_take, List.length_drop] at *; omega) | (have h_ := he.1; omega))) ?_
              refine VO.gcallN 143 rfl ⟨_, rfl, rfl⟩ fnOk22 rfl (fun W hW => SameSections_ok W (Ow.rd f39_0 (hW.at (i := 139) rfl)) (Rd.mono hs42 (hW.at (i := 0) rfl))) (fun v43 m43 hv43 => ?_)
              subst hv43
              refine VO.gy rfl ⟨_, rfl, rfl⟩ (.notD rfl) ?_
              refine VO.y rfl (.pF rfl rfl) ?_
              refine VO.k19 0 1 2 3 4 11 12 13 14 17 18 19 20 21 23 34 38 95 119 ?_
              refine VC.cond rfl (fun hc44 => ?_) (fun hc44 => ?_)
              · -- FFFFFFT
                exact absurd (by rw [(torn_end (at_ := pickI d1 ((b.length + 1 : Nat) : Int)) (by omega) hb hr he hn hg hga (by omega) (.inl (by omega)))]) hc44
              · -- FFFFFFF
                refine VC.skip ?_
                refine outN ?_
                refine VC.rs ?_
                refine VO.mv ?_
                refine VO.y rfl (.lenS rfl tsl41) ?_
                refine VO.y rfl (.eql rfl rfl) ?_
                refine VO.mv ?_
                refine VO.dec (t := 123) rfl (fun hc45 => ?_) (fun hc45 => ?_)
                · -- FFFFFFFT
                  refine VO.gN ?_
                  refine VO.gN ?_
                  refine VO.gN ?_
                  refine VO.gN ?_
                  refine VO.gN ?_
                  refine VO.gN ?_
                  refine VO.gN ?_
                  refine VO.gN ?_
                  refine VO.gN ?_
                  refine VO.gN ?_
                  refine VO.gN ?_
                  refine VO.y rfl (.pT rfl rfl) ?_
                  refine VO.as ?_
                  refine VO.k20 0 1 2 3 4 10 11 12 13 14 17 18 19 20 21 23 34 38 95 119 ?_
                  refine VC.ret ?_
                  refine ⟨_, _, res_run (rs := [.tmp 10]) rfl (.tmp rfl .nil), fun W_ hI => out_of (l := []) hI [] rfl rfl (mle_refl _) (fun hS_ => ?_)⟩
                  dsimp only [packV]
                  all_goals (first | rfl | (simp [*]; done))
                · -- FFFFFFFF
                  refine VO.gy rfl ⟨_, rfl, rfl⟩ (.mv rfl) ?_
                  refine VO.gy rfl ⟨_, rfl, rfl⟩ (.mv rfl) ?_
                  refine VO.gy rfl ⟨_, rfl, rfl⟩ (.lenS rfl tsl41) ?_
                  refine VO.gy rfl ⟨_, rfl, rfl⟩ (.sub rfl rfl rfl ⟨by first | omega | (simp only [List.length_append, List.length_nil, List.length_cons, List.length_take, List.length_drop] at *; omega) | (have h_ := he.1; omega), by first | omega | (simp only [List.length_append, List.length_nil, List.length_cons, List.length_take, List.length_drop] at *; omega) | (have h_ := he.1; omega)⟩) ?_
                  obtain ⟨x46, hx46⟩ : ∃ z_, (d0)[(((d0.length : Nat) : Int) - 1).toNat]? = some z_ := ⟨_, List.getElem?_eq_getElem (by first | omega | (simp only [List.length_append, List.length_nil, List.length_cons, List.length_take, List.length_drop] at *; omega) | (have h_ := he.1; omega))⟩
                  obtain ⟨gg46, oo46, ec46, ea46, hce46, hre46⟩ := h0.elem hx46
                  cases ea46
                  obtain ⟨q46_A2, q46_c2, rfl, q46_0, q46_1, q46_2⟩ := open_Section (x0 := x46.1) (x1 := x46.2.1) (x2 := x46.2.2) hre46
                  simp only [inK] at q46_0
                  simp only [inK] at q46_1
                  have q46_r2 := Rd.room q46_2
                  refine VO.gy rfl ⟨_, rfl, rfl⟩ (.ixI ((((d0.length : Nat) : Int) - 1).toNat) rfl rfl tsl41 (by first | omega | (simp only [List.length_append, List.length_nil, List.length_cons, List.length_take, List.length_drop] at *; omega) | (have h_ := he.1; omega)) (by first | omega | (simp only [List.length_append, List.length_nil, List.length_cons, List.length_take, List.length_drop] at *; omega) | (have h_ := he.1; omega))) ?_
                  refine VO.gy rfl ⟨_, rfl, rfl⟩ (.ldA 0 rfl tk24 rfl hce46) ?_
                  refine VO.gy rfl ⟨_, rfl, rfl⟩ (.mv rfl) ?_
                  refine VO.gy rfl ⟨_, rfl, rfl⟩ (.mv rfl) ?_
                  refine VO.gy rfl ⟨_, rfl, rfl⟩ (.mv rfl) ?_
                  refine VO.gy rfl ⟨_, rfl, rfl⟩ (.mv rfl) ?_
                  refine VO.gcallN 147 rfl ⟨_, rfl, rfl⟩ fnOk33 rfl (fun W hW => again19_ok W (Rd.mono hre46 (hW.at (i := 0) rfl)) (OwnL.rd h_b (hW.at (i := 105) rfl) (mle_nil _)) d2 (by simp only [inK]; (first | omega | (simp only [List.length_append, List.length_nil, List.length_cons, List.length_take, List.length_drop] at *; omega) | (have h_ := he.1; omega))) d3 (by simp only [inK]; (first | omega | (simp only [List.length_append, List.length_nil, List.length_cons, List.length_take, List.length_drop] at *; omega) | (have h_ := he.1; omega))) d4 (by simp only [inK]; (first | omega | (simp only [List.length_append, List.length_nil, List.length_cons, List.length_take, List.length_drop] at *; omega) | (have h_ := he.1; omega))) (by exact (torn_last (by omega) hb hr ‹d0[_]? = some _›).1) (by exact (torn_last (by omega) hb hr ‹d0[_]? = some _›).2) (by first | omega | (simp only [List.length_append, List.length_nil, List.length_cons, List.length_take, List.length_drop] at *; omega) | (have h_ := he.1; omega)) (by first | omega | (simp only [List.length_append, List.length_nil, List.length_cons, List.length_take, List.length_drop] at *; omega) | (have h_ := he.1; omega))) (fun v47 m47 hv47 => ?_)
                  subst hv47
                  refine VO.y rfl (.pF rfl rfl) ?_
                  refine VO.as ?_
                  refine VO.k20 0 1 2 3 4 10 11 12 13 14 17 18 19 20 21 23 34 38 95 119 ?_
                  refine VC.ret ?_
                  refine ⟨_, _, res_run (rs := [.tmp 10]) rfl (.tmp rfl .nil), fun W_ hI => out_of (l := []) hI [] rfl rfl (mle_refl _) (fun hS_ => ?_)⟩
                  dsimp only [packV]
                  all_goals (first | rfl | (simp [*]; done))
end
section
set_option linter.unusedVariables false
set_option maxRecDepth 4000
open Go.ChangeShapes Go.WideShapes Go.ChangeAt Go.RowKit
theorem orphanTorn_ok0 : tyOk Try.prog 60 (.sl TSection) (.inl 41) = true := by kernel_rfl
set_option maxRecDepth 100000 in
theorem orphanTorn_lifted (os : Os) (started : os.Started) (H : Type) (enc : TypeId × Value → H) (F0 : Stop.Interp) :
    ReturnsInHanded {} Try.checked os 6 .any ((Rows.OpenSpec.upto Rows.orphanTornSpec).pre6 enc Try.prog Try.f6 Rows.orphanTornUptoRow.domain false) (((Rows.OpenSpec.upto Rows.orphanTornSpec).at F0).post enc Try.prog Try.f6 false true false false) := by
  refine returnsInHanded_of_cond (C := Try.checked) (s := (Rows.OpenSpec.upto Rows.orphanTornSpec)) (k := Rows.uptoSmall) rfl (by kernel_rfl) started (by kernel_rfl) Try.func6
    (OpenSpec.witness (enc := enc) (C := Try.checked) (s := (Rows.OpenSpec.upto Rows.orphanTornSpec)) (k := Rows.uptoSmall) rfl false ⟨#[], #[.slice none 0 0, .int .i64 0, .int .i64 0, .int .i64 0, .int .i64 0], []⟩ 8 (by kernel_rfl) (by kernel_rfl) (by kernel_rfl)
      (x := ([.nil, .lit (.int .i64 0), .lit (.int .i64 0), .lit (.int .i64 0), .lit (.int .i64 0)], [], [])) (by kernel_rfl) (by kernel_rfl) (by kernel_rfl)) ?_
  intro W base args ds gs before hval0 hW hcnd hup _
  have hval : ∀ (j : Nat) t v, Try.f6.params[j]? = some t → args[j]? = some v → Value.okWide Try.prog W .any base t v := hval0
  have hW' := hW
  obtain ⟨p, q, hA0, hV, rfl, hfz, hnd⟩ := hW
  have hA : DataW.TrodAll enc Try.prog W 0 (fun _ => true) true Try.f6.params.toList args.toList ds p := hA0
  rw [Try.params6] at hA hval
  clear hA0 hval0
  obtain ⟨args⟩ := args
  obtain ⟨v0, r0, d0, e0, p0, q0, ha0, rfl, rfl, h0, hA0⟩ := trodAll_cons hA
  simp only at ha0; subst ha0
  obtain ⟨v1, r1, d1, e1, p1, q1, ha1, rfl, rfl, h1, hA1⟩ := trodAll_cons hA0
  subst ha1
  obtain ⟨v2, r2, d2, e2, p2, q2, ha2, rfl, rfl, h2, hA2⟩ := trodAll_cons hA1
  subst ha2
  obtain ⟨v3, r3, d3, e3, p3, q3, ha3, rfl, rfl, h3, hA3⟩ := trodAll_cons hA2
  subst ha3
  obtain ⟨v4, r4, d4, e4, p4, q4, ha4, rfl, rfl, h4, hA4⟩ := trodAll_cons hA3
  subst ha4
  obtain ⟨rfl, rfl, rfl⟩ := trodAll_nil hA4
  obtain ⟨x0, hx0⟩ := arg_sl 60 orphanTorn_ok0 Try.underlying41 (hval 0 41 v0 rfl rfl) h0
  obtain ⟨x1, rfl, hx1⟩ := arg_int Try.underlying3 (hval 1 3 v1 rfl rfl) h1
  obtain ⟨x2, rfl, hx2⟩ := arg_int Try.underlying3 (hval 2 3 v2 rfl rfl) h2
  obtain ⟨x3, rfl, hx3⟩ := arg_int Try.underlying3 (hval 3 3 v3 rfl rfl) h3
  obtain ⟨x4, rfl, hx4⟩ := arg_int Try.underlying3 (hval 4 3 v4 rfl rfl) h4
  have lim0 := arg_upto hup (d := d0) (by simp) Try.underlying41 h0 hx0
  refine (calls_of (orphanTorn_ok W hx0 x1 hx1 x2 hx2 x3 hx3 x4 hx4)).mono fun e W' ⟨he, hg⟩ => ?_
  subst he
  exact ⟨_, rfl, law_post hW' hg laidOut_ok (by kernel_rfl) rfl Try.underlying4 rfl rfl rfl rfl⟩
theorem orphanTorn_joined : joinedFacts Try.prog 6 Try.f6 (Rows.OpenSpec.upto Rows.orphanTornSpec).bare Rows.orphanTornUptoRow = true := by
  unfold joinedFacts
  rw [laidOut_ok, mapsRowed_ok, stopsHeard_ok, mayEnter_ok, lifts_ok, make_ok]
  kernel_rfl
theorem orphanTorn_proved : Rows.OrphanTornUptoSaid :=
  OpenClaim.holds_of_cond 6 Try.f6 rfl rfl rfl rfl rfl rfl rfl ⟨rfl, rfl, rfl, rfl, rfl⟩ rfl rfl rfl rfl rfl (by kernel_rfl) Try.func6 orphanTorn_joined
    (of_decide_eq_true (by kernel_rfl)) (by unfold Func.isWrapper; first | (rw [if_pos (by decide +kernel)]; kernel_rfl) | (rw [if_neg (by decide +kernel)]; exact ⟨rfl, rfl⟩))
    (fun os started H enc _ F0 => orphanTorn_lifted os started H enc F0)
#print axioms orphanTorn_proved
end
end Go.Proofs.Ytbjkfnnabnacfaa
