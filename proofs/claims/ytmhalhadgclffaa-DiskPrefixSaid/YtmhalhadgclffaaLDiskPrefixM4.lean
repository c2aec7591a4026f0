/- Part 4 of the proof of LDiskPrefix: what it needs of the library, the walks and the plain laws. Conditions: those named in each theorem. -/
import Derived.Test.YtmhalhadgclffaaLDiskPrefixM3
namespace Go.Proofs.Ytmhalhadgclffaa
section
set_option linter.unusedVariables false
set_option linter.unusedSimpArgs false
set_option maxRecDepth 4000
theorem fnOk19 : fnOk Try.prog 19 = true := by kernel_rfl
theorem tk28 : tk Try.prog 28 = some (some 4) := by kernel_rfl
theorem tz28 : tz Try.prog 28 = some [.slice none 0 0, .slice none 0 0, .slice none 0 0, .slice none 0 0] := by kernel_rfl
theorem begins05_ok (W : World) {v0 : Value} {d0 : List UInt8} (h0 : Rd (.sl .byte) (wm W) [v0] d0) {v1 : Value} {d1 : List UInt8} (h1 : Rd (.sl .byte) (wm W) [v1] d1) : CallR Try.prog 19 [v0, v1] W (mnil) (fun v m' => v = .bool (decide (begB d0 d1))) := by
  obtain ⟨A0, c0, rfl, l0, k0⟩ := h0.slice
  simp only [maxLen] at k0
  obtain ⟨A1, c1, rfl, l1, k1⟩ := h1.slice
  simp only [maxLen] at k1
  refine CallR.ofA (n := 18) Try.func19 rfl rfl rfl ?_
  refine VC.rs ?_
  refine VO.as ?_
  refine VO.k3 0 1 4 ?_
  refine VC.rs ?_
  refine VO.mv ?_
  refine VO.y rfl (.lenS rfl tsl27) ?_
  refine VO.mv ?_
  refine VO.y rfl (.lenS rfl tsl27) ?_
  refine VO.y rfl (.leq rfl rfl) ?_
  refine VO.mv ?_
  refine VO.dec (t := 10) rfl (fun hc1 => ?_) (fun hc1 => ?_)
  · -- T
    refine VO.gy rfl ⟨_, rfl, rfl⟩ (.mv rfl) ?_
    refine VO.gy rfl ⟨_, rfl, rfl⟩ (.mv rfl) ?_
    refine VO.gy rfl ⟨_, rfl, rfl⟩ (.lenS rfl tsl27) ?_
    have hs2 := h0.pre (j := d1.length) bd
    refine VO.gy rfl ⟨_, rfl, rfl⟩ (.slHI d1.length rfl rfl tsl27 rfl bd) ?_
    refine VO.gy rfl ⟨_, rfl, rfl⟩ (.mv rfl) ?_
    refine VO.gcallN 103 rfl ⟨_, rfl, rfl⟩ fnOk20 rfl (fun W hW => SameBytes_ok W (Rd.mono hs2 (hW.at (i := 0) rfl)) (Rd.mono h1 (hW.at (i := 0) rfl))) (fun v3 m3 hv3 => ?_)
    subst hv3
    refine VO.y rfl (.pT rfl rfl) ?_
    refine VO.as ?_
    refine VO.k3 0 1 4 ?_
    refine VC.ret ?_
    refine ⟨_, _, res_run (rs := [.tmp 4]) rfl (.tmp rfl .nil), fun W_ hI => out_of (l := []) hI [] rfl rfl (mle_refl _) (fun hS_ => ?_)⟩
    dsimp only [packV]
    all_goals (first | rfl | (first | exact congrArg Value.bool (decide_eq_false (fun h_ => by have := h_.1; omega)).symm | exact congrArg Value.bool (decide_eq_decide.2 (by exact ⟨fun h_ => ⟨by omega, h_⟩, fun h_ => h_.2⟩))))
  · -- F
    refine VO.gN ?_
    refine VO.gN ?_
    refine VO.gN ?_
    refine VO.gN ?_
    refine VO.gN ?_
    refine VO.gN ?_
    refine VO.y rfl (.pF rfl rfl) ?_
    refine VO.as ?_
    refine VO.k3 0 1 4 ?_
    refine VC.ret ?_
    refine ⟨_, _, res_run (rs := [.tmp 4]) rfl (.tmp rfl .nil), fun W_ hI => out_of (l := []) hI [] rfl rfl (mle_refl _) (fun hS_ => ?_)⟩
    dsimp only [packV]
    all_goals (first | rfl | (first | exact congrArg Value.bool (decide_eq_false (fun h_ => by have := h_.1; omega)).symm | exact congrArg Value.bool (decide_eq_decide.2 (by exact ⟨fun h_ => ⟨by omega, h_⟩, fun h_ => h_.2⟩))))
set_option maxHeartbeats 4000000 in
theorem diskPrefix_ok (W : World) {v0 : Value} {d0 : List Dlaw05Act} (h0 : Rd (.sl Tlaw05Act) (wm W) [v0] d0) (d1 : Int) (h1 : inK .i64 d1) (d2 : Int) (h2 : inK .i64 d2) : CallR Try.prog 3 [v0, .int .i64 d1, .int .i64 d2] W (mnil) (fun v m' => v = .bool true) := by
  obtain ⟨A0, c0, rfl, l0, k0⟩ := h0.slice
  simp only [maxLen] at k0
  have h1' := h1; simp only [inK] at h1'
  have h2' := h2; simp only [inK] at h2'
  refine CallR.ofA (n := 129) Try.func3 rfl rfl rfl ?_
  refine VC.rs ?_
  refine VO.as ?_
  refine VO.k4 0 1 2 6 ?_
  refine VC.seq ?_
  refine VC.rs ?_
  refine VO.callN 101 rfl fnOk8 rfl (fun W hW => lives05_ok W ) (fun v1 m1 hv1 => ?_)
  subst hv1
  refine VO.y rfl (.not rfl) ?_
  refine VO.k5 0 1 2 6 16 ?_
  refine VC.condF rfl ?_
  refine VC.skip ?_
  refine outN ?_
  refine VC.seq ?_
  refine VC.rs ?_
  refine VO.mv ?_
  refine VO.callN 102 rfl fnOk9 rfl (fun W hW => small05_ok W (Rd.mono h0 (hW.at (i := 0) rfl))) (fun v2 m2 hv2 => ?_)
  subst hv2
  refine VO.y rfl (.notD rfl) ?_
  refine VO.mv ?_
  refine VO.dec (t := 20) rfl (fun hc3 => ?_) (fun hc3 => ?_)
  · -- T
    refine VO.gN ?_
    refine VO.gN ?_
    refine VO.y rfl (.pT rfl rfl) ?_
    refine VO.mv ?_
    refine VO.gN ?_
    refine VO.gN ?_
    refine VO.y rfl (.pT rfl rfl) ?_
    refine VO.keep [0] [(0, wm W)] (by kernel_rfl) ?_
    refine VO.k6 0 1 2 6 16 27 ?_
    refine VC.condT rfl ?_
    refine VC.rs ?_
    refine VO.as ?_
    refine VO.k6 0 1 2 6 16 27 ?_
    refine VC.ret ?_
    refine outR ?_
    refine ⟨_, _, res_run (rs := [.tmp 6]) rfl (.tmp rfl .nil), fun W_ hI => out_of (l := []) hI [] rfl rfl (mle_refl _) (fun hS_ => ?_)⟩
    dsimp only [packV]
    all_goals (first | rfl | (simp [*]; done))
  · -- F
    refine VO.gy rfl ⟨_, rfl, rfl⟩ (.mv rfl) ?_
    refine VO.gy rfl ⟨_, rfl, rfl⟩ (.lss rfl rfl) ?_
    refine VO.y rfl (.pF rfl rfl) ?_
    refine VO.mv ?_
    refine VO.dec (t := 24) rfl (fun hc4 => ?_) (fun hc4 => ?_)
    · -- FT
      refine VO.gN ?_
      refine VO.gN ?_
      refine VO.y rfl (.pT rfl rfl) ?_
      refine VO.keep [0] [(0, wm W)] (by kernel_rfl) ?_
      refine VO.k6 0 1 2 6 16 27 ?_
      refine VC.condT rfl ?_
      refine VC.rs ?_
      refine VO.as ?_
      refine VO.k6 0 1 2 6 16 27 ?_
      refine VC.ret ?_
      refine outR ?_
      refine ⟨_, _, res_run (rs := [.tmp 6]) rfl (.tmp rfl .nil), fun W_ hI => out_of (l := []) hI [] rfl rfl (mle_refl _) (fun hS_ => ?_)⟩
      dsimp only [packV]
      all_goals (first | rfl | (simp [*]; done))
    · -- FF
      refine VO.gy rfl ⟨_, rfl, rfl⟩ (.mv rfl) ?_
      refine VO.gy rfl ⟨_, rfl, rfl⟩ (.lss rfl rfl) ?_
      refine VO.y rfl (.pF rfl rfl) ?_
      refine VO.keep [0] [(0, wm W)] (by kernel_rfl) ?_
      refine VO.k6 0 1 2 6 16 27 ?_
      refine VC.cond rfl (fun hc5 => ?_) (fun hc5 => ?_)
      · -- FFT
        refine VC.rs ?_
        refine VO.as ?_
        refine VO.k6 0 1 2 6 16 27 ?_
        refine VC.ret ?_
        refine outR ?_
        refine ⟨_, _, res_run (rs := [.tmp 6]) rfl (.tmp rfl .nil), fun W_ hI => out_of (l := []) hI [] rfl rfl (mle_refl _) (fun hS_ => ?_)⟩
        dsimp only [packV]
        all_goals (first | rfl | (simp [*]; done))
      · -- FFF
        refine VC.skip ?_
        refine outN ?_
        refine VC.rs ?_
        refine VO.callN 106 rfl fnOk10 rfl (fun W hW => dNew_ok W ) (fun v6 m6 hv6 => ?_)
        obtain ⟨s6_0, rfl, f6_0⟩ := hv6
        have hfa7 := okD_new
        have hfa8 := (show wD newD = 0 from rfl)
        refine VO.as ?_
        refine VO.k7 0 1 2 6 7 16 27 ?_
        refine VC.rs ?_
        refine VO.alloc 110 rfl tz28 (fun g9 => ?_)
        refine VO.alloc 112 rfl tz28 (fun g11 => ?_)
        refine VO.k9 0 1 2 6 7 8 9 16 27 ?_
        refine VC.seq ?_
        refine VC.rs ?_
        refine VO.as ?_
        refine VO.keep [112, 110, 106, 0] [(112, mone g11 (.cells [Value.slice none (0) (0), Value.slice none (0) (0), Value.slice none (0) (0), Value.slice none (0) (0)].toArray 28 (0, 0))), (110, mone g9 (.cells [Value.slice none (0) (0), Value.slice none (0) (0), Value.slice none (0) (0), Value.slice none (0) (0)].toArray 28 (0, 0))), (106, m6), (0, wm W)] (by kernel_rfl) ?_
        refine VO.k10 0 1 2 6 7 8 9 10 16 27 ?_
        refine VC.block ?_
        refine VC.inv _ (fun _ h => h.nilc 113) ?_
        have hp14_0 : Rd (.sl .byte) (mnil) [Value.slice none (0) (0)] [] := (Rd.nil _ _ none 0 (Nat.zero_le _))
        have hp14_1 : Rd (.sl .byte) (mnil) [Value.slice none (0) (0)] [] := (Rd.nil _ _ none 0 (Nat.zero_le _))
        have hp14_2 : Rd (.sl .byte) (mnil) [Value.slice none (0) (0)] [] := (Rd.nil _ _ none 0 (Nat.zero_le _))
        have hp14_3 : Rd (.sl .byte) (mnil) [Value.slice none (0) (0)] [] := (Rd.nil _ _ none 0 (Nat.zero_le _))
        have hp14_4 : Rd (.sl .byte) (mnil) [Value.slice none (0) (0)] [] := (Rd.nil _ _ none 0 (Nat.zero_le _))
        have hp14_5 : Rd (.sl .byte) (mnil) [Value.slice none (0) (0)] [] := (Rd.nil _ _ none 0 (Nat.zero_le _))
        have hp14_6 : Rd (.sl .byte) (mnil) [Value.slice none (0) (0)] [] := (Rd.nil _ _ none 0 (Nat.zero_le _))
        have hp14_7 : Rd (.sl .byte) (mnil) [Value.slice none (0) (0)] [] := (Rd.nil _ _ none 0 (Nat.zero_le _))
        refine VC.loop (G := Mem × Nat × DdiskDisk × Mem × (List UInt8) × (Option Addr) × Nat × (List UInt8) × (Option Addr) × Nat × (List UInt8) × (Option Addr) × Nat × (List UInt8) × (Option Addr) × Nat × (List UInt8) × (Option Addr) × Nat × (List UInt8) × (Option Addr) × Nat × (List UInt8) × (Option Addr) × Nat × (List UInt8) × (Option Addr) × Nat) (fun g => [(10, Value.int .i64 ((((g.2.1) : Nat) : Int))), (0, Value.slice A0 (d0.length) (c0)), (1, Value.int .i64 (d1)), (2, Value.int .i64 (d2)), (7, Value.pointer (some ⟨s6_0, 0, none⟩)), (8, Value.pointer (some ⟨g9, 0, none⟩)), (9, Value.pointer (some ⟨g11, 0, none⟩)), (16, Value.bool false), (27, Value.bool (decide (d2 < 0)))]) (fun g => [(113, (g.1)), (112, mone g11 (.cells [Value.slice (g.2.2.2.2.2.2.2.2.2.2.2.2.2.2.2.2.2.1) ((g.2.2.2.2.2.2.2.2.2.2.2.2.2.2.2.2.1).length) ((g.2.2.2.2.2.2.2.2.2.2.2.2.2.2.2.2.2.2.1)), Value.slice (g.2.2.2.2.2.2.2.2.2.2.2.2.2.2.2.2.2.2.2.2.1) ((g.2.2.2.2.2.2.2.2.2.2.2.2.2.2.2.2.2.2.2.1).length) ((g.2.2.2.2.2.2.2.2.2.2.2.2.2.2.2.2.2.2.2.2.2.1)), Value.slice (g.2.2.2.2.2.2.2.2.2.2.2.2.2.2.2.2.2.2.2.2.2.2.2.1) ((g.2.2.2.2.2.2.2.2.2.2.2.2.2.2.2.2.2.2.2.2.2.2.1).length) ((g.2.2.2.2.2.2.2.2.2.2.2.2.2.2.2.2.2.2.2.2.2.2.2.2.1)), Value.slice (g.2.2.2.2.2.2.2.2.2.2.2.2.2.2.2.2.2.2.2.2.2.2.2.2.2.2.1) ((g.2.2.2.2.2.2.2.2.2.2.2.2.2.2.2.2.2.2.2.2.2.2.2.2.2.1).length) ((g.2.2.2.2.2.2.2.2.2.2.2.2.2.2.2.2.2.2.2.2.2.2.2.2.2.2.2))].toArray 28 (0, 0))), (110, mone g9 (.cells [Value.slice (g.2.2.2.2.2.1) ((g.2.2.2.2.1).length) ((g.2.2.2.2.2.2.1)), Value.slice (g.2.2.2.2.2.2.2.2.1) ((g.2.2.2.2.2.2.2.1).length) ((g.2.2.2.2.2.2.2.2.2.1)), Value.slice (g.2.2.2.2.2.2.2.2.2.2.2.1) ((g.2.2.2.2.2.2.2.2.2.2.1).length) ((g.2.2.2.2.2.2.2.2.2.2.2.2.1)), Value.slice (g.2.2.2.2.2.2.2.2.2.2.2.2.2.2.1) ((g.2.2.2.2.2.2.2.2.2.2.2.2.2.1).length) ((g.2.2.2.2.2.2.2.2.2.2.2.2.2.2.2.1))].toArray 28 (0, 0))), (106, (g.2.2.2.1)), (0, wm W)]) (fun g => ((g.2.1) ≤ d0.length) ∧ (Pf (g.2.2.1) ((g.2.2.2.2.1), (g.2.2.2.2.2.2.2.1), (g.2.2.2.2.2.2.2.2.2.2.1), (g.2.2.2.2.2.2.2.2.2.2.2.2.2.1)) ((g.2.2.2.2.2.2.2.2.2.2.2.2.2.2.2.2.1), (g.2.2.2.2.2.2.2.2.2.2.2.2.2.2.2.2.2.2.2.1), (g.2.2.2.2.2.2.2.2.2.2.2.2.2.2.2.2.2.2.2.2.2.2.1), (g.2.2.2.2.2.2.2.2.2.2.2.2.2.2.2.2.2.2.2.2.2.2.2.2.2.1))) ∧ (wD (g.2.2.1) ≤ 1300 * (g.2.1)) ∧ (Rd (.sl .byte) ((g.1)) [.slice (g.2.2.2.2.2.1) (g.2.2.2.2.1).length (g.2.2.2.2.2.2.1)] (g.2.2.2.2.1)) ∧ (Rd (.sl .byte) ((g.1)) [.slice (g.2.2.2.2.2.2.2.2.1) (g.2.2.2.2.2.2.2.1).length (g.2.2.2.2.2.2.2.2.2.1)] (g.2.2.2.2.2.2.2.1)) ∧ (Rd (.sl .byte) ((g.1)) [.slice (g.2.2.2.2.2.2.2.2.2.2.2.1) (g.2.2.2.2.2.2.2.2.2.2.1).length (g.2.2.2.2.2.2.2.2.2.2.2.2.1)] (g.2.2.2.2.2.2.2.2.2.2.1)) ∧ (Rd (.sl .byte) ((g.1)) [.slice (g.2.2.2.2.2.2.2.2.2.2.2.2.2.2.1) (g.2.2.2.2.2.2.2.2.2.2.2.2.2.1).length (g.2.2.2.2.2.2.2.2.2.2.2.2.2.2.2.1)] (g.2.2.2.2.2.2.2.2.2.2.2.2.2.1)) ∧ (Rd (.sl .byte) ((g.1)) [.slice (g.2.2.2.2.2.2.2.2.2.2.2.2.2.2.2.2.2.1) (g.2.2.2.2.2.2.2.2.2.2.2.2.2.2.2.2.1).length (g.2.2.2.2.2.2.2.2.2.2.2.2.2.2.2.2.2.2.1)] (g.2.2.2.2.2.2.2.2.2.2.2.2.2.2.2.2.1)) ∧ (Rd (.sl .byte) ((g.1)) [.slice (g.2.2.2.2.2.2.2.2.2.2.2.2.2.2.2.2.2.2.2.2.1) (g.2.2.2.2.2.2.2.2.2.2.2.2.2.2.2.2.2.2.2.1).length (g.2.2.2.2.2.2.2.2.2.2.2.2.2.2.2.2.2.2.2.2.2.1)] (g.2.2.2.2.2.2.2.2.2.2.2.2.2.2.2.2.2.2.2.1)) ∧ (Rd (.sl .byte) ((g.1)) [.slice (g.2.2.2.2.2.2.2.2.2.2.2.2.2.2.2.2.2.2.2.2.2.2.2.1) (g.2.2.2.2.2.2.2.2.2.2.2.2.2.2.2.2.2.2.2.2.2.2.1).length (g.2.2.2.2.2.2.2.2.2.2.2.2.2.2.2.2.2.2.2.2.2.2.2.2.1)] (g.2.2.2.2.2.2.2.2.2.2.2.2.2.2.2.2.2.2.2.2.2.2.1)) ∧ (Rd (.sl .byte) ((g.1)) [.slice (g.2.2.2.2.2.2.2.2.2.2.2.2.2.2.2.2.2.2.2.2.2.2.2.2.2.2.1) (g.2.2.2.2.2.2.2.2.2.2.2.2.2.2.2.2.2.2.2.2.2.2.2.2.2.1).length (g.2.2.2.2.2.2.2.2.2.2.2.2.2.2.2.2.2.2.2.2.2.2.2.2.2.2.2)] (g.2.2.2.2.2.2.2.2.2.2.2.2.2.2.2.2.2.2.2.2.2.2.2.2.2.1)) ∧ (Ow (.ptr TdiskDisk) (g.2.2.2.1) [.pointer (some ⟨s6_0, 0, none⟩)] (s6_0, (g.2.2.1)))) (fun g => d0.length - (g.2.1)) (mnil, 0, newD, m6, [], none, 0, [], none, 0, [], none, 0, [], none, 0, [], none, 0, [], none, 0, [], none, 0, [], none, 0) (⟨by (dsimp only; omega), by exact pf_new, by (dsimp only; omega), hp14_0, hp14_1, hp14_2, hp14_3, hp14_4, hp14_5, hp14_6, hp14_7, f6_0⟩) ⟨⟨rfl, rfl, rfl, rfl, rfl, rfl, rfl, rfl, rfl, trivial⟩, fun _ h => h.sub [113, 112, 110, 106, 0]⟩ ?_
        rintro ⟨pm, i, d, d_m, al0, al0_A, al0_c, al1, al1_A, al1_c, al2, al2_A, al2_c, al3, al3_A, al3_c, su0, su0_A, su0_c, su1, su1_A, su1_c, su2, su2_A, su2_c, su3, su3_A, su3_c⟩ ⟨hi, hz, hw, h_al0, h_al1, h_al2, h_al3, h_su0, h_su1, h_su2, h_su3, h_d⟩
        replace hi : i ≤ d0.length := hi
        replace hz : Pf d (al0, al1, al2, al3) (su0, su1, su2, su3) := hz
        replace hw : wD d ≤ 1300 * i := hw
        replace h_al0 : Rd (.sl .byte) (pm) [.slice al0_A al0.length al0_c] al0 := h_al0
        replace h_al1 : Rd (.sl .byte) (pm) [.slice al1_A al1.length al1_c] al1 := h_al1
        replace h_al2 : Rd (.sl .byte) (pm) [.slice al2_A al2.length al2_c] al2 := h_al2
        replace h_al3 : Rd (.sl .byte) (pm) [.slice al3_A al3.length al3_c] al3 := h_al3
        replace h_su0 : Rd (.sl .byte) (pm) [.slice su0_A su0.length su0_c] su0 := h_su0
        replace h_su1 : Rd (.sl .byte) (pm) [.slice su1_A su1.length su1_c] su1 := h_su1
        replace h_su2 : Rd (.sl .byte) (pm) [.slice su2_A su2.length su2_c] su2 := h_su2
        replace h_su3 : Rd (.sl .byte) (pm) [.slice su3_A su3.length su3_c] su3 := h_su3
        replace h_d : Ow (.ptr TdiskDisk) d_m [.pointer (some ⟨s6_0, 0, none⟩)] (s6_0, d) := h_d
        show VC _ _ _ _ _ [(10, Value.int .i64 (((i : Nat) : Int))), (0, Value.slice A0 (d0.length) (c0)), (1, Value.int .i64 (d1)), (2, Value.int .i64 (d2)), (7, Value.pointer (some ⟨s6_0, 0, none⟩)), (8, Value.pointer (some ⟨g9, 0, none⟩)), (9, Value.pointer (some ⟨g11, 0, none⟩)), (16, Value.bool false), (27, Value.bool (decide (d2 < 0)))] [(113, pm), (112, mone g11 (.cells [Value.slice su0_A (su0.length) (su0_c), Value.slice su1_A (su1.length) (su1_c), Value.slice su2_A (su2.length) (su2_c), Value.slice su3_A (su3.length) (su3_c)].toArray 28 (0, 0))), (110, mone g9 (.cells [Value.slice al0_A (al0.length) (al0_c), Value.slice al1_A (al1.length) (al1_c), Value.slice al2_A (al2.length) (al2_c), Value.slice al3_A (al3.length) (al3_c)].toArray 28 (0, 0))), (106, d_m), (0, wm W)]
        have l_al0 : al0.length ≤ al0_c := by obtain ⟨_, _, he, hl, _⟩ := h_al0.slice; simp only [Value.slice.injEq] at he; omega
        have k_al0 : al0_c ≤ 9223372036854775807 := by obtain ⟨_, _, he, _, hl⟩ := h_al0.slice; simp only [Value.slice.injEq, maxLen] at he hl; omega
        have l_al1 : al1.length ≤ al1_c := by obtain ⟨_, _, he, hl, _⟩ := h_al1.slice; simp only [Value.slice.injEq] at he; omega
        have k_al1 : al1_c ≤ 9223372036854775807 := by obtain ⟨_, _, he, _, hl⟩ := h_al1.slice; simp only [Value.slice.injEq, maxLen] at he hl; omega
        have l_al2 : al2.length ≤ al2_c := by obtain ⟨_, _, he, hl, _⟩ := h_al2.slice; simp only [Value.slice.injEq] at he; omega
        have k_al2 : al2_c ≤ 9223372036854775807 := by obtain ⟨_, _, he, _, hl⟩ := h_al2.slice; simp only [Value.slice.injEq, maxLen] at he hl; omega
        have l_al3 : al3.length ≤ al3_c := by obtain ⟨_, _, he, hl, _⟩ := h_al3.slice; simp only [Value.slice.injEq] at he; omega
        have k_al3 : al3_c ≤ 9223372036854775807 := by obtain ⟨_, _, he, _, hl⟩ := h_al3.slice; simp only [Value.slice.injEq, maxLen] at he hl; omega
        have l_su0 : su0.length ≤ su0_c := by obtain ⟨_, _, he, hl, _⟩ := h_su0.slice; simp only [Value.slice.injEq] at he; omega
        have k_su0 : su0_c ≤ 9223372036854775807 := by obtain ⟨_, _, he, _, hl⟩ := h_su0.slice; simp only [Value.slice.injEq, maxLen] at he hl; omega
        have l_su1 : su1.length ≤ su1_c := by obtain ⟨_, _, he, hl, _⟩ := h_su1.slice; simp only [Value.slice.injEq] at he; omega
        have k_su1 : su1_c ≤ 9223372036854775807 := by obtain ⟨_, _, he, _, hl⟩ := h_su1.slice; simp only [Value.slice.injEq, maxLen] at he hl; omega
        have l_su2 : su2.length ≤ su2_c := by obtain ⟨_, _, he, hl, _⟩ := h_su2.slice; simp only [Value.slice.injEq] at he; omega
        have k_su2 : su2_c ≤ 9223372036854775807 := by obtain ⟨_, _, he, _, hl⟩ := h_su2.slice; simp only [Value.slice.injEq, maxLen] at he hl; omega
        have l_su3 : su3.length ≤ su3_c := by obtain ⟨_, _, he, hl, _⟩ := h_su3.slice; simp only [Value.slice.injEq] at he; omega
        have k_su3 : su3_c ≤ 9223372036854775807 := by obtain ⟨_, _, he, _, hl⟩ := h_su3.slice; simp only [Value.slice.injEq, maxLen] at he hl; omega
        have hok := hz.on.ok
        have hsm := Decidable.not_not.1 ‹¬ ¬ smallA d0›
        have hsm2 := hsm.2
        have hls := pf_lens hz
        refine VC.seq ?_
        refine VC.rs ?_
        refine VO.mv ?_
        refine VO.mv ?_
        refine VO.y rfl (.lenS rfl tsl22) ?_
        refine VO.y rfl (.lss rfl rfl) ?_
        refine VO.k10 0 1 2 7 8 9 10 16 27 32 ?_
        refine VC.cond rfl (fun hc15 => ?_) (fun hc15 => ?_)
        · -- FFFT
          refine VC.skip ?_
          refine outN ?_
          refine VC.seq ?_
          refine VC.block ?_
          refine VC.rs ?_
          refine VO.mv ?_
          refine VO.mv ?_
          obtain ⟨x16, hx16⟩ : ∃ z_, (d0)[i]? = some z_ := ⟨_, List.getElem?_eq_getElem (by first | omega | (simp only [List.length_append, List.length_nil, List.length_cons, List.length_take, List.length_drop] at *; omega) | (have h_ := hsm.1 _ (List.mem_of_getElem? ‹d0[_]? = some _›); omega))⟩
          obtain ⟨gg16, oo16, ec16, ea16, hce16, hre16⟩ := h0.elem hx16
          cases ea16
          obtain ⟨q16_A4, q16_c4, rfl, q16_0, q16_1, q16_2, q16_3, q16_4⟩ := open_law05Act (x0 := x16.1) (x1 := x16.2.1) (x2 := x16.2.2.1) (x3 := x16.2.2.2.1) (x4 := x16.2.2.2.2) hre16
          simp only [inK] at q16_0
          simp only [inK] at q16_1
          simp only [inK] at q16_2
          simp only [inK] at q16_3
          have q16_r4 := Rd.room q16_4
          refine VO.y rfl (.ixI i rfl rfl tsl22 rfl (by first | omega | (simp only [List.length_append, List.length_nil, List.length_cons, List.length_take, List.length_drop] at *; omega) | (have h_ := hsm.1 _ (List.mem_of_getElem? ‹d0[_]? = some _›); omega))) ?_
          refine VO.y rfl (.fa rfl tst31 rfl) ?_
          refine VO.y rfl (.ld1 0 rfl tk3 rfl (hce16.at1 (j := 1) rfl)) ?_
          refine VO.callN 117 rfl fnOk11 rfl (fun W hW => pick_ok W x16.2.1 (by simp only [inK]; (first | omega | (simp only [List.length_append, List.length_nil, List.length_cons, List.length_take, List.length_drop] at *; omega) | (have h_ := hsm.1 _ (List.mem_of_getElem? ‹d0[_]? = some _›); omega))) 4 (by simp only [inK]; (first | omega | (simp only [List.length_append, List.length_nil, List.length_cons, List.length_take, List.length_drop] at *; omega) | (have h_ := hsm.1 _ (List.mem_of_getElem? ‹d0[_]? = some _›); omega))) (by first | omega | (simp only [List.length_append, List.length_nil, List.length_cons, List.length_take, List.length_drop] at *; omega) | (have h_ := hsm.1 _ (List.mem_of_getElem? ‹d0[_]? = some _›); omega))) (fun v17 m17 hv17 => ?_)
          subst hv17
          have hfa18 := pickI_bounds x16.2.1 4 (by omega)
          refine VO.as ?_
          refine VO.k11 0 1 2 7 8 9 10 11 16 27 32 ?_
          refine VC.seq ?_
          refine VC.rs ?_
          refine VO.mv ?_
          refine VO.mv ?_
          refine VO.y rfl (.ixI i rfl rfl tsl22 rfl (by first | omega | (simp only [List.length_append, List.length_nil, List.length_cons, List.length_take, List.length_drop] at *; omega) | (have h_ := hsm.1 _ (List.mem_of_getElem? ‹d0[_]? = some _›); omega))) ?_
          refine VO.y rfl (.fa rfl tst31 rfl) ?_
          refine VO.y rfl (.ld1 0 rfl tk27 rfl (hce16.at1 (j := 4) rfl)) ?_
          refine VO.y rfl (.lenS rfl tsl27) ?_
          refine VO.y rfl (.eql rfl rfl) ?_
          refine VO.keep [113, 112, 110, 106, 0] [(113, pm), (112, mone g11 (.cells [Value.slice su0_A (su0.length) (su0_c), Value.slice su1_A (su1.length) (su1_c), Value.slice su2_A (su2.length) (su2_c), Value.slice su3_A (su3.length) (su3_c)].toArray 28 (0, 0))), (110, mone g9 (.cells [Value.slice al0_A (al0.length) (al0_c), Value.slice al1_A (al1.length) (al1_c), Value.slice al2_A (al2.length) (al2_c), Value.slice al3_A (al3.length) (al3_c)].toArray 28 (0, 0))), (106, d_m), (0, wm W)] (by kernel_rfl) ?_
          refine VO.k12 0 1 2 7 8 9 10 11 16 27 32 47 ?_
          refine VC.cond rfl (fun hc20 => ?_) (fun hc20 => ?_)
          · -- FFFTT
            refine VC.seq ?_
            refine VC.rs ?_
            refine VO.mv ?_
            refine VO.call 106 rfl fnOk12 rfl rfl (fun W hW => dSync_ok W (hW.at (i := 106) rfl) h_d (by assumption) (by first | omega | (simp only [List.length_append, List.length_nil, List.length_cons, List.length_take, List.length_drop] at *; omega) | (have h_ := hsm.1 _ (List.mem_of_getElem? ‹d0[_]? = some _›); omega))) (fun v21 m21 hv21 => ?_)
            obtain ⟨rfl, w21_0⟩ := hv21
            have hfa22 := (sync_ok (show okD d by assumption))
            have hfa23 := (sync_w (show okD d by assumption))
            refine VO.y rfl (.neq rfl rfl) ?_
            refine VO.mv ?_
            refine VO.dec (t := 51) rfl (fun hc24 => ?_) (fun hc24 => ?_)
            · -- FFFTTT
              exact absurd (pf_sync hz).1 hc24
            · -- FFFTTF
              refine VO.gy rfl ⟨_, rfl, rfl⟩ (.mv rfl) ?_
              refine VO.gcall 106 rfl ⟨_, rfl, rfl⟩ fnOk13 rfl rfl (fun W hW => dPending_ok W (hW.at (i := 106) rfl) w21_0) (fun v25 m25 hv25 => ?_)
              obtain ⟨rfl, w25_0⟩ := hv25
              refine VO.gy rfl ⟨_, rfl, rfl⟩ (.neq rfl rfl) ?_
              refine VO.y rfl (.pF rfl rfl) ?_
              refine VO.k13 0 1 2 7 8 9 10 11 16 27 32 47 55 ?_
              refine VC.cond rfl (fun hc26 => ?_) (fun hc26 => ?_)
              · -- FFFTTFT
                exact absurd (pf_sync hz).2.1 hc26
              · -- FFFTTFF
                refine VC.skip ?_
                refine outN ?_
                refine VC.rs ?_
                refine VO.y rfl (.ldA 110 rfl tk28 rfl (cellsAt_one rfl rfl)) ?_
                refine VO.store (k := 4) (c' := [Value.slice al0_A (al0.length) (al0_c), Value.slice al1_A (al1.length) (al1_c), Value.slice al2_A (al2.length) (al2_c), Value.slice al3_A (al3.length) (al3_c)]) 112 rfl rfl (.inl tk28) rfl rfl rfl rfl rfl ?_
                refine VO.k13 0 1 2 7 8 9 10 11 16 27 32 47 55 ?_
                refine VC.exit ?_
                refine outE ?_
                refine outBB ?_
                refine outN ?_
                refine VC.reg ?_
                refine VO.mv ?_
                refine VO.y rfl (.add (c := ((i + 1 : Nat) : Int)) rfl rfl (by omega) ⟨by first | omega | (simp only [List.length_append, List.length_nil, List.length_cons, List.length_take, List.length_drop] at *; omega) | (have h_ := hsm.1 _ (List.mem_of_getElem? ‹d0[_]? = some _›); omega), by first | omega | (simp only [List.length_append, List.length_nil, List.length_cons, List.length_take, List.length_drop] at *; omega) | (have h_ := hsm.1 _ (List.mem_of_getElem? ‹d0[_]? = some _›); omega)⟩) ?_
                refine VO.as ?_
                refine VO.keep [106, 113, 112, 110, 0] [(106, m25), (113, pm), (112, mone g11 (.cells [Value.slice al0_A (al0.length) (al0_c), Value.slice al1_A (al1.length) (al1_c), Value.slice al2_A (al2.length) (al2_c), Value.slice al3_A (al3.length) (al3_c)].toArray 28 (0, 0))), (110, mone g9 (.cells [Value.slice al0_A (al0.length) (al0_c), Value.slice al1_A (al1.length) (al1_c), Value.slice al2_A (al2.length) (al2_c), Value.slice al3_A (al3.length) (al3_c)].toArray 28 (0, 0))), (0, wm W)] (by kernel_rfl) ?_
                refine VO.k13 0 1 2 7 8 9 10 11 16 27 32 47 55 ?_
                exact outN ⟨⟨pm, i + 1, ((dSync d).1), m25, al0, al0_A, al0_c, al1, al1_A, al1_c, al2, al2_A, al2_c, al3, al3_A, al3_c, al0, al0_A, al0_c, al1, al1_A, al1_c, al2, al2_A, al2_c, al3, al3_A, al3_c⟩, ⟨by (dsimp only; omega), by first | exact (pf_sync hz).2.2 | exact pf_w0 hz ‹_ = (0 : Int)› | exact pf_w1 hz ‹_ = (1 : Int)› | exact pf_w2 hz ‹_ = (2 : Int)› | exact pf_w3 hz ‹_ = (3 : Int)›, by (have h_ := hsm.1 _ (List.mem_of_getElem? ‹d0[i]? = some _›); dsimp only; omega), h_al0, h_al1, h_al2, h_al3, h_al0, h_al1, h_al2, h_al3, w25_0⟩, by (dsimp only; omega), ⟨⟨rfl, rfl, rfl, rfl, rfl, rfl, rfl, rfl, rfl, trivial⟩, fun _ h => Inv.sub h [113, 112, 110, 106, 0]⟩⟩
          · -- FFFTF
            refine VC.skip ?_
            refine outN ?_
            refine VC.seq ?_
            refine VC.rs ?_
            refine VO.mv ?_
            refine VO.mv ?_
            refine VO.mv ?_
            refine VO.mv ?_
            refine VO.y rfl (.ixI i rfl rfl tsl22 rfl (by first | omega | (simp only [List.length_append, List.length_nil, List.length_cons, List.length_take, List.length_drop] at *; omega) | (have h_ := hsm.1 _ (List.mem_of_getElem? ‹d0[_]? = some _›); omega))) ?_
            refine VO.y rfl (.fa rfl tst31 rfl) ?_
            refine VO.y rfl (.ld1 0 rfl tk27 rfl (hce16.at1 (j := 4) rfl)) ?_
            refine VO.call 106 rfl fnOk14 rfl rfl (fun W hW => dWrite_ok W (hW.at (i := 106) rfl) h_d (pickI x16.2.1 4) (by simp only [inK]; (first | omega | (simp only [List.length_append, List.length_nil, List.length_cons, List.length_take, List.length_drop] at *; omega) | (have h_ := hsm.1 _ (List.mem_of_getElem? ‹d0[_]? = some _›); omega))) (Rd.mono q16_4 (hW.out (i := 106) (j := 0) rfl rfl)) (by assumption) (by first | omega | (simp only [List.length_append, List.length_nil, List.length_cons, List.length_take, List.length_drop] at *; omega) | (have h_ := hsm.1 _ (List.mem_of_getElem? ‹d0[_]? = some _›); omega))) (fun v28 m28 hv28 => ?_)
            obtain ⟨rfl, w28_0⟩ := hv28
            have hfa29 := (write_ok (f := (pickI x16.2.1 4)) (b := x16.2.2.2.2) (show okD d by assumption))
            have hfa30 := (write_w (f := (pickI x16.2.1 4)) (b := x16.2.2.2.2) (show okD d by assumption))
            refine VO.y rfl (.neq rfl rfl) ?_
            refine VO.k13 0 1 2 7 8 9 10 11 16 27 32 47 65 ?_
            refine VC.cond rfl (fun hc31 => ?_) (fun hc31 => ?_)
            · -- FFFTFT
              exact absurd (pf_write hz (by unfold inF; omega)).1 hc31
            · -- FFFTFF
              refine VC.skip ?_
              refine outN ?_
              refine VC.regD _ 11 [(0, true), (1, true), (2, true), (3, true), (5, true), (6, true), (7, true), (8, true), (9, true), (4, false), (10, false)] follows (by kernel_rfl) (fun _ h => h.sub [106, 113, 112, 110, 0]) ?_
              refine VD.y rfl rfl (.inl rfl) (.mv rfl) ?_
              refine VD.y rfl rfl (.inl rfl) (.mv rfl) ?_
              rcases (show (pickI x16.2.1 4) = (0 : Int) ∨ (pickI x16.2.1 4) = (1 : Int) ∨ (pickI x16.2.1 4) = (2 : Int) ∨ (pickI x16.2.1 4) = (3 : Int) from by first | omega | (simp only [List.length_append, List.length_nil, List.length_cons, List.length_take, List.length_drop] at *; omega) | (have h_ := hsm.1 _ (List.mem_of_getElem? ‹d0[_]? = some _›); omega)) with hi32 | hi32 | hi32 | hi32
              · -- FFFTFF0
                refine VD.y rfl rfl (.inl rfl) (.ixa (i := 0) (o := 0) rfl rfl tar28 hi32 rfl rfl) ?_
                refine VD.y rfl rfl (.inl rfl) (.ld1 110 rfl tk27 rfl (cellsAt_one rfl rfl)) ?_
                refine VD.y rfl rfl (.inl rfl) (.mv rfl) ?_
                refine VD.y rfl rfl (.inl rfl) (.mv rfl) ?_
                refine VD.y rfl rfl (.inl rfl) (.ixI i rfl rfl tsl22 rfl (by first | omega | (simp only [List.length_append, List.length_nil, List.length_cons, List.length_take, List.length_drop] at *; omega) | (have h_ := hsm.1 _ (List.mem_of_getElem? ‹d0[_]? = some _›); omega))) ?_
                refine VD.y rfl rfl (.inl rfl) (.fa rfl tst31 rfl) ?_
                refine VD.y rfl rfl (.inl rfl) (.ld1 0 rfl tk27 rfl (hce16.at1 (j := 4) rfl)) ?_
                refine VD.callN 134 rfl rfl (.inl rfl) fnOk15 rfl (fun _ h => h.sub [106, 113, 112, 110, 0]) (fun W hW => CopyBytes_ok W (Rd.mono h_al0 (hW.at (i := 113) rfl)) (by first | omega | (simp only [List.length_append, List.length_nil, List.length_cons, List.length_take, List.length_drop] at *; omega) | (have h_ := hsm.1 _ (List.mem_of_getElem? ‹d0[_]? = some _›); omega))) (fun v34 m34 hv34 => ?_)
                obtain ⟨s34_0, rfl, f34_0⟩ := hv34
                obtain ⟨A34_0, c34_0, eq34_0, l34_0, k34_0⟩ := f34_0.slice
                subst eq34_0
                simp only [maxLen] at k34_0
                obtain ⟨mo35, cs35, hM35, hA35, hC35⟩ := (Ow.ownl f34_0 rfl mnil)
                obtain ⟨all35, hS35, hR35⟩ := Rd.srcI (P := Try.prog) (q16_4) Try.underlying27
                refine VD.app 134 rfl rfl rfl rfl tsl27 tz5 rfl rfl hM35 hA35 (hS35 _ 0 rfl) hR35.nice (by simp only [maxLen]; (first | omega | (simp only [List.length_append, List.length_nil, List.length_cons, List.length_take, List.length_drop] at *; omega) | (have h_ := hsm.1 _ (List.mem_of_getElem? ‹d0[_]? = some _›); omega))) (by first | omega | (simp only [List.length_append, List.length_nil, List.length_cons, List.length_take, List.length_drop] at *; omega) | (have h_ := hsm.1 _ (List.mem_of_getElem? ‹d0[_]? = some _›); omega)) (by decide) (fun _ _ h => h.sub [106, 113, 112, 110, 0]) (fun v35 m35 hN35 => ?_)
                have ho35 : OwnL .byte m35 mnil v35 (al0 ++ x16.2.2.2.2) := OwnL.more hC35 hN35 (All2c.mono hR35 fun _ _ h => Rd.flat rfl h _)
                obtain ⟨A35, c35, rfl, l35, k35⟩ := ho35.slice
                simp only [maxLen] at k35
                refine VD.nil rfl ?_ rfl
                refine VO.y rfl (.ixa (i := 0) (o := 0) rfl rfl tar28 hi32 rfl rfl) ?_
                refine VO.store (k := 1) (c' := [Value.slice A35 ((al0 ++ x16.2.2.2.2).length) (c35), Value.slice al1_A (al1.length) (al1_c), Value.slice al2_A (al2.length) (al2_c), Value.slice al3_A (al3.length) (al3_c)]) 110 rfl rfl (.inr ⟨tk27, rfl⟩) rfl rfl rfl rfl rfl ?_
                refine VO.k13 0 1 2 7 8 9 10 11 16 27 32 47 65 ?_
                refine outBN ?_
                refine outN ?_
                refine VC.reg ?_
                refine VO.gather (l := [pm, m35]) 137 [113, 134] rfl (fun hg36 => ?_)
                have hp36_0 : Rd (.sl .byte) (muns [pm, m35]) [Value.slice A35 ((al0 ++ x16.2.2.2.2).length) (c35)] (al0 ++ x16.2.2.2.2) := (OwnL.rd ho35 (hg36.1 _ (.tail _ (.head _))) (mle_nil _))
                have hp36_1 : Rd (.sl .byte) (muns [pm, m35]) [Value.slice al1_A (al1.length) (al1_c)] al1 := (Rd.mono h_al1 (hg36.1 _ (.head _)))
                have hp36_2 : Rd (.sl .byte) (muns [pm, m35]) [Value.slice al2_A (al2.length) (al2_c)] al2 := (Rd.mono h_al2 (hg36.1 _ (.head _)))
                have hp36_3 : Rd (.sl .byte) (muns [pm, m35]) [Value.slice al3_A (al3.length) (al3_c)] al3 := (Rd.mono h_al3 (hg36.1 _ (.head _)))
                have hp36_4 : Rd (.sl .byte) (muns [pm, m35]) [Value.slice su0_A (su0.length) (su0_c)] su0 := (Rd.mono h_su0 (hg36.1 _ (.head _)))
                have hp36_5 : Rd (.sl .byte) (muns [pm, m35]) [Value.slice su1_A (su1.length) (su1_c)] su1 := (Rd.mono h_su1 (hg36.1 _ (.head _)))
                have hp36_6 : Rd (.sl .byte) (muns [pm, m35]) [Value.slice su2_A (su2.length) (su2_c)] su2 := (Rd.mono h_su2 (hg36.1 _ (.head _)))
                have hp36_7 : Rd (.sl .byte) (muns [pm, m35]) [Value.slice su3_A (su3.length) (su3_c)] su3 := (Rd.mono h_su3 (hg36.1 _ (.head _)))
                refine VO.mv ?_
                refine VO.y rfl (.add (c := ((i + 1 : Nat) : Int)) rfl rfl (by omega) ⟨by first | omega | (simp only [List.length_append, List.length_nil, List.length_cons, List.length_take, List.length_drop] at *; omega) | (have h_ := hsm.1 _ (List.mem_of_getElem? ‹d0[_]? = some _›); omega), by first | omega | (simp only [List.length_append, List.length_nil, List.length_cons, List.length_take, List.length_drop] at *; omega) | (have h_ := hsm.1 _ (List.mem_of_getElem? ‹d0[_]? = some _›); omega)⟩) ?_
                refine VO.as ?_
                refine VO.keep [137, 106, 112, 110, 0] [(137, muns [pm, m35]), (106, m28), (112, mone g11 (.cells [Value.slice su0_A (su0.length) (su0_c), Value.slice su1_A (su1.length) (su1_c), Value.slice su2_A (su2.length) (su2_c), Value.slice su3_A (su3.length) (su3_c)].toArray 28 (0, 0))), (110, mone g9 (.cells [Value.slice A35 ((al0 ++ x16.2.2.2.2).length) (c35), Value.slice al1_A (al1.length) (al1_c), Value.slice al2_A (al2.length) (al2_c), Value.slice al3_A (al3.length) (al3_c)].toArray 28 (0, 0))), (0, wm W)] (by kernel_rfl) ?_
                refine VO.k13 0 1 2 7 8 9 10 11 16 27 32 47 65 ?_
                exact outN ⟨⟨muns [pm, m35], i + 1, (dWrite d (pickI x16.2.1 4) x16.2.2.2.2).1, m28, al0 ++ x16.2.2.2.2, A35, c35, al1, al1_A, al1_c, al2, al2_A, al2_c, al3, al3_A, al3_c, su0, su0_A, su0_c, su1, su1_A, su1_c, su2, su2_A, su2_c, su3, su3_A, su3_c⟩, ⟨by (dsimp only; omega), by first | exact (pf_sync hz).2.2 | exact pf_w0 hz ‹_ = (0 : Int)› | exact pf_w1 hz ‹_ = (1 : Int)› | exact pf_w2 hz ‹_ = (2 : Int)› | exact pf_w3 hz ‹_ = (3 : Int)›, by (have h_ := hsm.1 _ (List.mem_of_getElem? ‹d0[i]? = some _›); dsimp only; omega), hp36_0, hp36_1, hp36_2, hp36_3, hp36_4, hp36_5, hp36_6, hp36_7, w28_0⟩, by (dsimp only; omega), ⟨⟨rfl, rfl, rfl, rfl, rfl, rfl, rfl, rfl, rfl, trivial⟩, fun _ h => Inv.sub (Inv.num h 137 113 rfl) [113, 112, 110, 106, 0]⟩⟩
              · -- FFFTFF1
                refine VD.y rfl rfl (.inl rfl) (.ixa (i := 1) (o := 1) rfl rfl tar28 hi32 rfl rfl) ?_
                refine VD.y rfl rfl (.inl rfl) (.ld1 110 rfl tk27 rfl (cellsAt_one rfl rfl)) ?_
                refine VD.y rfl rfl (.inl rfl) (.mv rfl) ?_
                refine VD.y rfl rfl (.inl rfl) (.mv rfl) ?_
                refine VD.y rfl rfl (.inl rfl) (.ixI i rfl rfl tsl22 rfl (by first | omega | (simp only [List.length_append, List.length_nil, List.length_cons, List.length_take, List.length_drop] at *; omega) | (have h_ := hsm.1 _ (List.mem_of_getElem? ‹d0[_]? = some _›); omega))) ?_
                refine VD.y rfl rfl (.inl rfl) (.fa rfl tst31 rfl) ?_
                refine VD.y rfl rfl (.inl rfl) (.ld1 0 rfl tk27 rfl (hce16.at1 (j := 4) rfl)) ?_
                refine VD.callN 139 rfl rfl (.inl rfl) fnOk15 rfl (fun _ h => h.sub [106, 113, 112, 110, 0]) (fun W hW => CopyBytes_ok W (Rd.mono h_al1 (hW.at (i := 113) rfl)) (by first | omega | (simp only [List.length_append, List.length_nil, List.length_cons, List.length_take, List.length_drop] at *; omega) | (have h_ := hsm.1 _ (List.mem_of_getElem? ‹d0[_]? = some _›); omega))) (fun v39 m39 hv39 => ?_)
                obtain ⟨s39_0, rfl, f39_0⟩ := hv39
                obtain ⟨A39_0, c39_0, eq39_0, l39_0, k39_0⟩ := f39_0.slice
                subst eq39_0
                simp only [maxLen] at k39_0
                obtain ⟨mo40, cs40, hM40, hA40, hC40⟩ := (Ow.ownl f39_0 rfl mnil)
                obtain ⟨all40, hS40, hR40⟩ := Rd.srcI (P := Try.prog) (q16_4) Try.underlying27
                refine VD.app 139 rfl rfl rfl rfl tsl27 tz5 rfl rfl hM40 hA40 (hS40 _ 0 rfl) hR40.nice (by simp only [maxLen]; (first | omega | (simp only [List.length_append, List.length_nil, List.length_cons, List.length_take, List.length_drop] at *; omega) | (have h_ := hsm.1 _ (List.mem_of_getElem? ‹d0[_]? = some _›); omega))) (by first | omega | (simp only [List.length_append, List.length_nil, List.length_cons, List.length_take, List.length_drop] at *; omega) | (have h_ := hsm.1 _ (List.mem_of_getElem? ‹d0[_]? = some _›); omega)) (by decide) (fun _ _ h => h.sub [106, 113, 112, 110, 0]) (fun v40 m40 hN40 => ?_)
                have ho40 : OwnL .byte m40 mnil v40 (al1 ++ x16.2.2.2.2) := OwnL.more hC40 hN40 (All2c.mono hR40 fun _ _ h => Rd.flat rfl h _)
                obtain ⟨A40, c40, rfl, l40, k40⟩ := ho40.slice
                simp only [maxLen] at k40
                refine VD.nil rfl ?_ rfl
                refine VO.y rfl (.ixa (i := 1) (o := 1) rfl rfl tar28 hi32 rfl rfl) ?_
                refine VO.store (k := 1) (c' := [Value.slice al0_A (al0.length) (al0_c), Value.slice A40 ((al1 ++ x16.2.2.2.2).length) (c40), Value.slice al2_A (al2.length) (al2_c), Value.slice al3_A (al3.length) (al3_c)]) 110 rfl rfl (.inr ⟨tk27, rfl⟩) rfl rfl rfl rfl rfl ?_
                refine VO.k13 0 1 2 7 8 9 10 11 16 27 32 47 65 ?_
                refine outBN ?_
                refine outN ?_
                refine VC.reg ?_
                refine VO.gather (l := [pm, m40]) 142 [113, 139] rfl (fun hg41 => ?_)
                have hp41_0 : Rd (.sl .byte) (muns [pm, m40]) [Value.slice al0_A (al0.length) (al0_c)] al0 := (Rd.mono h_al0 (hg41.1 _ (.head _)))
                have hp41_1 : Rd (.sl .byte) (muns [pm, m40]) [Value.slice A40 ((al1 ++ x16.2.2.2.2).length) (c40)] (al1 ++ x16.2.2.2.2) := (OwnL.rd ho40 (hg41.1 _ (.tail _ (.head _))) (mle_nil _))
                have hp41_2 : Rd (.sl .byte) (muns [pm, m40]) [Value.slice al2_A (al2.length) (al2_c)] al2 := (Rd.mono h_al2 (hg41.1 _ (.head _)))
                have hp41_3 : Rd (.sl .byte) (muns [pm, m40]) [Value.slice al3_A (al3.length) (al3_c)] al3 := (Rd.mono h_al3 (hg41.1 _ (.head _)))
                have hp41_4 : Rd (.sl .byte) (muns [pm, m40]) [Value.slice su0_A (su0.length) (su0_c)] su0 := (Rd.mono h_su0 (hg41.1 _ (.head _)))
                have hp41_5 : Rd (.sl .byte) (muns [pm, m40]) [Value.slice su1_A (su1.length) (su1_c)] su1 := (Rd.mono h_su1 (hg41.1 _ (.head _)))
                have hp41_6 : Rd (.sl .byte) (muns [pm, m40]) [Value.slice su2_A (su2.length) (su2_c)] su2 := (Rd.mono h_su2 (hg41.1 _ (.head _)))
                have hp41_7 : Rd (.sl .byte) (muns [pm, m40]) [Value.slice su3_A (su3.length) (su3_c)] su3 := (Rd.mono h_su3 (hg41.1 _ (.head _)))
                refine VO.mv ?_
                refine VO.y rfl (.add (c := ((i + 1 : Nat) : Int)) rfl rfl (by omega) ⟨by first | omega | (simp only [List.length_append, List.length_nil, List.length_cons, List.length_take, List.length_drop] at *; omega) | (have h_ := hsm.1 _ (List.mem_of_getElem? ‹d0[_]? = some _›); omega), by first | omega | (simp only [List.length_append, List.length_nil, List.length_cons, List.length_take, List.length_drop] at *; omega) | (have h_ := hsm.1 _ (List.mem_of_getElem? ‹d0[_]? = some _›); omega)⟩) ?_
                refine VO.as ?_
                refine VO.keep [142, 106, 112, 110, 0] [(142, muns [pm, m40]), (106, m28), (112, mone g11 (.cells [Value.slice su0_A (su0.length) (su0_c), Value.slice su1_A (su1.length) (su1_c), Value.slice su2_A (su2.length) (su2_c), Value.slice su3_A (su3.length) (su3_c)].toArray 28 (0, 0))), (110, mone g9 (.cells [Value.slice al0_A (al0.length) (al0_c), Value.slice A40 ((al1 ++ x16.2.2.2.2).length) (c40), Value.slice al2_A (al2.length) (al2_c), Value.slice al3_A (al3.length) (al3_c)].toArray 28 (0, 0))), (0, wm W)] (by kernel_rfl) ?_
                refine VO.k13 0 1 2 7 8 9 10 11 16 27 32 47 65 ?_
                exact outN ⟨⟨muns [pm, m40], i + 1, (dWrite d (pickI x16.2.1 4) x16.2.2.2.2).1, m28, al0, al0_A, al0_c, al1 ++ x16.2.2.2.2, A40, c40, al2, al2_A, al2_c, al3, al3_A, al3_c, su0, su0_A, su0_c, su1, su1_A, su1_c, su2, su2_A, su2_c, su3, su3_A, su3_c⟩, ⟨by (dsimp only; omega), by first | exact (pf_sync hz).2.2 | exact pf_w0 hz ‹_ = (0 : Int)› | exact pf_w1 hz ‹_ = (1 : Int)› | exact pf_w2 hz ‹_ = (2 : Int)› | exact pf_w3 hz ‹_ = (3 : Int)›, by (have h_ := hsm.1 _ (List.mem_of_getElem? ‹d0[i]? = some _›); dsimp only; omega), hp41_0, hp41_1, hp41_2, hp41_3, hp41_4, hp41_5, hp41_6, hp41_7, w28_0⟩, by (dsimp only; omega), ⟨⟨rfl, rfl, rfl, rfl, rfl, rfl, rfl, rfl, rfl, trivial⟩, fun _ h => Inv.sub (Inv.num h 142 113 rfl) [113, 112, 110, 106, 0]⟩⟩
              · -- FFFTFF2
                refine VD.y rfl rfl (.inl rfl) (.ixa (i := 2) (o := 2) rfl rfl tar28 hi32 rfl rfl) ?_
                refine VD.y rfl rfl (.inl rfl) (.ld1 110 rfl tk27 rfl (cellsAt_one rfl rfl)) ?_
                refine VD.y rfl rfl (.inl rfl) (.mv rfl) ?_
                refine VD.y rfl rfl (.inl rfl) (.mv rfl) ?_
                refine VD.y rfl rfl (.inl rfl) (.ixI i rfl rfl tsl22 rfl (by first | omega | (simp only [List.length_append, List.length_nil, List.length_cons, List.length_take, List.length_drop] at *; omega) | (have h_ := hsm.1 _ (List.mem_of_getElem? ‹d0[_]? = some _›); omega))) ?_
                refine VD.y rfl rfl (.inl rfl) (.fa rfl tst31 rfl) ?_
                refine VD.y rfl rfl (.inl rfl) (.ld1 0 rfl tk27 rfl (hce16.at1 (j := 4) rfl)) ?_
                refine VD.callN 144 rfl rfl (.inl rfl) fnOk15 rfl (fun _ h => h.sub [106, 113, 112, 110, 0]) (fun W hW => CopyBytes_ok W (Rd.mono h_al2 (hW.at (i := 113) rfl)) (by first | omega | (simp only [List.length_append, List.length_nil, List.length_cons, List.length_take, List.length_drop] at *; omega) | (have h_ := hsm.1 _ (List.mem_of_getElem? ‹d0[_]? = some _›); omega))) (fun v44 m44 hv44 => ?_)
                obtain ⟨s44_0, rfl, f44_0⟩ := hv44
                obtain ⟨A44_0, c44_0, eq44_0, l44_0, k44_0⟩ := f44_0.slice
                subst eq44_0
                simp only [maxLen] at k44_0
                obtain ⟨mo45, cs45, hM45, hA45, hC45⟩ := (Ow.ownl f44_0 rfl mnil)
                obtain ⟨all45, hS45, hR45⟩ := Rd.srcI (P := Try.prog) (q16_4) Try.underlying27
                refine VD.app 144 rfl rfl rfl rfl tsl27 tz5 rfl rfl hM45 hA45 (hS45 _ 0 rfl) hR45.nice (by simp only [maxLen]; (first | omega | (simp only [List.length_append, List.length_nil, List.length_cons, List.length_take, List.length_drop] at *; omega) | (have h_ := hsm.1 _ (List.mem_of_getElem? ‹d0[_]? = some _›); omega))) (by first | omega | (simp only [List.length_append, List.length_nil, List.length_cons, List.length_take, List.length_drop] at *; omega) | (have h_ := hsm.1 _ (List.mem_of_getElem? ‹d0[_]? = some _›); omega)) (by decide) (fun _ _ h => h.sub [106, 113, 112, 110, 0]) (fun v45 m45 hN45 => ?_)
                have ho45 : OwnL .byte m45 mnil v45 (al2 ++ x16.2.2.2.2) := OwnL.more hC45 hN45 (All2c.mono hR45 fun _ _ h => Rd.flat rfl h _)
                obtain ⟨A45, c45, rfl, l45, k45⟩ := ho45.slice
                simp only [maxLen] at k45
                refine VD.nil rfl ?_ rfl
                refine VO.y rfl (.ixa (i := 2) (o := 2) rfl rfl tar28 hi32 rfl rfl) ?_
                refine VO.store (k := 1) (c' := [Value.slice al0_A (al0.length) (al0_c), Value.slice al1_A (al1.length) (al1_c), Value.slice A45 ((al2 ++ x16.2.2.2.2).length) (c45), Value.slice al3_A (al3.length) (al3_c)]) 110 rfl rfl (.inr ⟨tk27, rfl⟩) rfl rfl rfl rfl rfl ?_
                refine VO.k13 0 1 2 7 8 9 10 11 16 27 32 47 65 ?_
                refine outBN ?_
                refine outN ?_
                refine VC.reg ?_
                refine VO.gather (l := [pm, m45]) 147 [113, 144] rfl (fun hg46 => ?_)
                have hp46_0 : Rd (.sl .byte) (muns [pm, m45]) [Value.slice al0_A (al0.length) (al0_c)] al0 := (Rd.mono h_al0 (hg46.1 _ (.head _)))
                have hp46_1 : Rd (.sl .byte) (muns [pm, m45]) [Value.slice al1_A (al1.length) (al1_c)] al1 := (Rd.mono h_al1 (hg46.1 _ (.head _)))
                have hp46_2 : Rd (.sl .byte) (muns [pm, m45]) [Value.slice A45 ((al2 ++ x16.2.2.2.2).length) (c45)] (al2 ++ x16.2.2.2.2) := (OwnL.rd ho45 (hg46.1 _ (.tail _ (.head _))) (mle_nil _))
                have hp46_3 : Rd (.sl .byte) (muns [pm, m45]) [Value.slice al3_A (al3.length) (al3_c)] al3 := (Rd.mono h_al3 (hg46.1 _ (.head _)))
                have hp46_4 : Rd (.sl .byte) (muns [pm, m45]) [Value.slice su0_A (su0.length) (su0_c)] su0 := (Rd.mono h_su0 (hg46.1 _ (.head _)))
                have hp46_5 : Rd (.sl .byte) (muns [pm, m45]) [Value.slice su1_A (su1.length) (su1_c)] su1 := (Rd.mono h_su1 (hg46.1 _ (.head _)))
                have hp46_6 : Rd (.sl .byte) (muns [pm, m45]) [Value.slice su2_A (su2.length) (su2_c)] su2 := (Rd.mono h_su2 (hg46.1 _ (.head _)))
                have hp46_7 : Rd (.sl .byte) (muns [pm, m45]) [Value.slice su3_A (su3.length) (su3_c)] su3 := (Rd.mono h_su3 (hg46.1 _ (.head _)))
                refine VO.mv ?_
                refine VO.y rfl (.add (c := ((i + 1 : Nat) : Int)) rfl rfl (by omega) ⟨by first | omega | (simp only [List.length_append, List.length_nil, List.length_cons, List.length_take, List.length_drop] at *; omega) | (have h_ := hsm.1 _ (List.mem_of_getElem? ‹d0[_]? = some _›); omega), by first | omega | (simp only [List.length_append, List.length_nil, List.length_cons, List.length_take, List.length_drop] at *; omega) | (have h_ := hsm.1 _ (List.mem_of_getElem? ‹d0[_]? = some _›); omega)⟩) ?_
                refine VO.as ?_
                refine VO.keep [147, 106, 112, 110, 0] [(147, muns [pm, m45]), (106, m28), (112, mone g11 (.cells [Value.slice su0_A (su0.length) (su0_c), Value.slice su1_A (su1.length) (su1_c), Value.slice su2_A (su2.length) (su2_c), Value.slice su3_A (su3.length) (su3_c)].toArray 28 (0, 0))), (110, mone g9 (.cells [Value.slice al0_A (al0.length) (al0_c), Value.slice al1_A (al1.length) (al1_c), Value.slice A45 ((al2 ++ x16.2.2.2.2).length) (c45), Value.slice al3_A (al3.length) (al3_c)].toArray 28 (0, 0))), (0, wm W)] (by kernel_rfl) ?_
                refine VO.k13 0 1 2 7 8 9 10 11 16 27 32 47 65 ?_
                exact outN ⟨⟨muns [pm, m45], i + 1, (dWrite d (pickI x16.2.1 4) x16.2.2.2.2).1, m28, al0, al0_A, al0_c, al1, al1_A, al1_c, al2 ++ x16.2.2.2.2, A45, c45, al3, al3_A, al3_c, su0, su0_A, su0_c, su1, su1_A, su1_c, su2, su2_A, su2_c, su3, su3_A, su3_c⟩, ⟨by (dsimp only; omega), by first | exact (pf_sync hz).2.2 | exact pf_w0 hz ‹_ = (0 : Int)› | exact pf_w1 hz ‹_ = (1 : Int)› | exact pf_w2 hz ‹_ = (2 : Int)› | exact pf_w3 hz ‹_ = (3 : Int)›, by (have h_ := hsm.1 _ (List.mem_of_getElem? ‹d0[i]? = some _›); dsimp only; omega), hp46_0, hp46_1, hp46_2, hp46_3, hp46_4, hp46_5, hp46_6, hp46_7, w28_0⟩, by (dsimp only; omega), ⟨⟨rfl, rfl, rfl, rfl, rfl, rfl, rfl, rfl, rfl, trivial⟩, fun _ h => Inv.sub (Inv.num h 147 113 rfl) [113, 112, 110, 106, 0]⟩⟩
              · -- FFFTFF3
                refine VD.y rfl rfl (.inl rfl) (.ixa (i := 3) (o := 3) rfl rfl tar28 hi32 rfl rfl) ?_
                refine VD.y rfl rfl (.inl rfl) (.ld1 110 rfl tk27 rfl (cellsAt_one rfl rfl)) ?_
                refine VD.y rfl rfl (.inl rfl) (.mv rfl) ?_
                refine VD.y rfl rfl (.inl rfl) (.mv rfl) ?_
                refine VD.y rfl rfl (.inl rfl) (.ixI i rfl rfl tsl22 rfl (by first | omega | (simp only [List.length_append, List.length_nil, List.length_cons, List.length_take, List.length_drop] at *; omega) | (have h_ := hsm.1 _ (List.mem_of_getElem? ‹d0[_]? = some _›); omega))) ?_
                refine VD.y rfl rfl (.inl rfl) (.fa rfl tst31 rfl) ?_
                refine VD.y rfl rfl (.inl rfl) (.ld1 0 rfl tk27 rfl (hce16.at1 (j := 4) rfl)) ?_
                refine VD.callN 149 rfl rfl (.inl rfl) fnOk15 rfl (fun _ h => h.sub [106, 113, 112, 110, 0]) (fun W hW => CopyBytes_ok W (Rd.mono h_al3 (hW.at (i := 113) rfl)) (by first | omega | (simp only [List.length_append, List.length_nil, List.length_cons, List.length_take, List.length_drop] at *; omega) | (have h_ := hsm.1 _ (List.mem_of_getElem? ‹d0[_]? = some _›); omega))) (fun v49 m49 hv49 => ?_)
                obtain ⟨s49_0, rfl, f49_0⟩ := hv49
                obtain ⟨A49_0, c49_0, eq49_0, l49_0, k49_0⟩ := f49_0.slice
                subst eq49_0
                simp only [maxLen] at k49_0
                obtain ⟨mo50, cs50, hM50, hA50, hC50⟩ := (Ow.ownl f49_0 rfl mnil)
                obtain ⟨all50, hS50, hR50⟩ := Rd.srcI (P := Try.prog) (q16_4) Try.underlying27
                refine VD.app 149 rfl rfl rfl rfl tsl27 tz5 rfl rfl hM50 hA50 (hS50 _ 0 rfl) hR50.nice (by simp only [maxLen]; (first | omega | (simp only [List.length_append, List.length_nil, List.length_cons, List.length_take, List.length_drop] at *; omega) | (have h_ := hsm.1 _ (List.mem_of_getElem? ‹d0[_]? = some _›); omega))) (by first | omega | (simp only [List.length_append, List.length_nil, List.length_cons, List.length_take, List.length_drop] at *; omega) | (have h_ := hsm.1 _ (List.mem_of_getElem? ‹d0[_]? = some _›); omega)) (by decide) (fun _ _ h => h.sub [106, 113, 112, 110, 0]) (fun v50 m50 hN50 => ?_)
                have ho50 : OwnL .byte m50 mnil v50 (al3 ++ x16.2.2.2.2) := OwnL.more hC50 hN50 (All2c.mono hR50 fun _ _ h => Rd.flat rfl h _)
                obtain ⟨A50, c50, rfl, l50, k50⟩ := ho50.slice
                simp only [maxLen] at k50
                refine VD.nil rfl ?_ rfl
                refine VO.y rfl (.ixa (i := 3) (o := 3) rfl rfl tar28 hi32 rfl rfl) ?_
                refine VO.store (k := 1) (c' := [Value.slice al0_A (al0.length) (al0_c), Value.slice al1_A (al1.length) (al1_c), Value.slice al2_A (al2.length) (al2_c), Value.slice A50 ((al3 ++ x16.2.2.2.2).length) (c50)]) 110 rfl rfl (.inr ⟨tk27, rfl⟩) rfl rfl rfl rfl rfl ?_
                refine VO.k13 0 1 2 7 8 9 10 11 16 27 32 47 65 ?_
                refine outBN ?_
                refine outN ?_
                refine VC.reg ?_
                refine VO.gather (l := [pm, m50]) 152 [113, 149] rfl (fun hg51 => ?_)
                have hp51_0 : Rd (.sl .byte) (muns [pm, m50]) [Value.slice al0_A (al0.length) (al0_c)] al0 := (Rd.mono h_al0 (hg51.1 _ (.head _)))
                have hp51_1 : Rd (.sl .byte) (muns [pm, m50]) [Value.slice al1_A (al1.length) (al1_c)] al1 := (Rd.mono h_al1 (hg51.1 _ (.head _)))
                have hp51_2 : Rd (.sl .byte) (muns [pm, m50]) [Value.slice al2_A (al2.length) (al2_c)] al2 := (Rd.mono h_al2 (hg51.1 _ (.head _)))
                have hp51_3 : Rd (.sl .byte) (muns [pm, m50]) [Value.slice A50 ((al3 ++ x16.2.2.2.2).length) (c50)] (al3 ++ x16.2.2.2.2) := (OwnL.rd ho50 (hg51.1 _ (.tail _ (.head _))) (mle_nil _))
                have hp51_4 : Rd (.sl .byte) (muns [pm, m50]) [Value.slice su0_A (su0.length) (su0_c)] su0 := (Rd.mono h_su0 (hg51.1 _ (.head _)))
                have hp51_5 : Rd (.sl .byte) (muns [pm, m50]) [Value.slice su1_A (su1.length) (su1_c)] su1 := (Rd.mono h_su1 (hg51.1 _ (.head _)))
                have hp51_6 : Rd (.sl .byte) (muns [pm, m50]) [Value.slice su2_A (su2.length) (su2_c)] su2 := (Rd.mono h_su2 (hg51.1 _ (.head _)))
                have hp51_7 : Rd (.sl .byte) (muns [pm, m50]) [Value.slice su3_A (su3.length) (su3_c)] su3 := (Rd.mono h_su3 (hg51.1 _ (.head _)))
                refine VO.mv ?_
                refine VO.y rfl (.add (c := ((i + 1 : Nat) : Int)) rfl rfl (by omega) ⟨by first | omega | (simp only [List.length_append, List.length_nil, List.length_cons, List.length_take, List.length_drop] at *; omega) | (have h_ := hsm.1 _ (List.mem_of_getElem? ‹d0[_]? = some _›); omega), by first | omega | (simp only [List.length_append, List.length_nil, List.length_cons, List.length_take, List.length_drop] at *; omega) | (have h_ := hsm.1 _ (List.mem_of_getElem? ‹d0[_]? = some _›); omega)⟩) ?_
                refine VO.as ?_
                refine VO.keep [152, 106, 112, 110, 0] [(152, muns [pm, m50]), (106, m28), (112, mone g11 (.cells [Value.slice su0_A (su0.length) (su0_c), Value.slice su1_A (su1.length) (su1_c), Value.slice su2_A (su2.length) (su2_c), Value.slice su3_A (su3.length) (su3_c)].toArray 28 (0, 0))), (110, mone g9 (.cells [Value.slice al0_A (al0.length) (al0_c), Value.slice al1_A (al1.length) (al1_c), Value.slice al2_A (al2.length) (al2_c), Value.slice A50 ((al3 ++ x16.2.2.2.2).length) (c50)].toArray 28 (0, 0))), (0, wm W)] (by kernel_rfl) ?_
                refine VO.k13 0 1 2 7 8 9 10 11 16 27 32 47 65 ?_
                exact outN ⟨⟨muns [pm, m50], i + 1, (dWrite d (pickI x16.2.1 4) x16.2.2.2.2).1, m28, al0, al0_A, al0_c, al1, al1_A, al1_c, al2, al2_A, al2_c, al3 ++ x16.2.2.2.2, A50, c50, su0, su0_A, su0_c, su1, su1_A, su1_c, su2, su2_A, su2_c, su3, su3_A, su3_c⟩, ⟨by (dsimp only; omega), by first | exact (pf_sync hz).2.2 | exact pf_w0 hz ‹_ = (0 : Int)› | exact pf_w1 hz ‹_ = (1 : Int)› | exact pf_w2 hz ‹_ = (2 : Int)› | exact pf_w3 hz ‹_ = (3 : Int)›, by (have h_ := hsm.1 _ (List.mem_of_getElem? ‹d0[i]? = some _›); dsimp only; omega), hp51_0, hp51_1, hp51_2, hp51_3, hp51_4, hp51_5, hp51_6, hp51_7, w28_0⟩, by (dsimp only; omega), ⟨⟨rfl, rfl, rfl, rfl, rfl, rfl, rfl, rfl, rfl, trivial⟩, fun _ h => Inv.sub (Inv.num h 152 113 rfl) [113, 112, 110, 106, 0]⟩⟩
        · -- FFFF
          refine VC.exit ?_
          refine outE ?_
          refine outE ?_
          refine outBB ?_
          refine outN ?_
          refine VC.seq ?_
          refine VC.rs ?_
          refine VO.mv ?_
          refine VO.call 106 rfl fnOk16 rfl rfl (fun W hW => dPull_ok W (hW.at (i := 106) rfl) h_d (by assumption)) (fun v53 m53 hv53 => ?_)
          obtain ⟨rfl, w53_0⟩ := hv53
          have hfa54 := (pull_ok (show okD d by assumption))
          have hfa55 := (pull_w d)
          refine VO.y rfl (.neq rfl rfl) ?_
          refine VO.mv ?_
          refine VO.dec (t := 81) rfl (fun hc56 => ?_) (fun hc56 => ?_)
          · -- FFFFT
            exact absurd (pf_pull hz).1 hc56
          · -- FFFFF
            refine VO.gy rfl ⟨_, rfl, rfl⟩ (.mv rfl) ?_
            refine VO.gy rfl ⟨_, rfl, rfl⟩ (.mv rfl) ?_
            refine VO.gy rfl ⟨_, rfl, rfl⟩ (.mv rfl) ?_
            refine VO.gcall 106 rfl ⟨_, rfl, rfl⟩ fnOk17 rfl rfl (fun W hW => dStart_ok W (hW.at (i := 106) rfl) w53_0 d1 (by simp only [inK]; (first | omega | (simp only [List.length_append, List.length_nil, List.length_cons, List.length_take, List.length_drop] at *; omega) | (have h_ := hsm.1 _ (List.mem_of_getElem? ‹d0[_]? = some _›); omega))) d2 (by simp only [inK]; (first | omega | (simp only [List.length_append, List.length_nil, List.length_cons, List.length_take, List.length_drop] at *; omega) | (have h_ := hsm.1 _ (List.mem_of_getElem? ‹d0[_]? = some _›); omega))) (by assumption) (by first | omega | (simp only [List.length_append, List.length_nil, List.length_cons, List.length_take, List.length_drop] at *; omega) | (have h_ := hsm.1 _ (List.mem_of_getElem? ‹d0[_]? = some _›); omega))) (fun v57 m57 hv57 => ?_)
            obtain ⟨rfl, w57_0⟩ := hv57
            have hfa58 := (start_ok (k := d1) (t := d2) (show okD ((dPull d).1) by assumption))
            have hfa59 := (start_w ((dPull d).1) d1 d2)
            refine VO.gy rfl ⟨_, rfl, rfl⟩ (.neq rfl rfl) ?_
            refine VO.y rfl (.pF rfl rfl) ?_
            refine VO.mv ?_
            refine VO.dec (t := 88) rfl (fun hc60 => ?_) (fun hc60 => ?_)
            · -- FFFFFT
              exact absurd (pf_start hz (by omega) (by omega)).1 hc60
            · -- FFFFFF
              refine VO.gy rfl ⟨_, rfl, rfl⟩ (.mv rfl) ?_
              refine VO.gcall 106 rfl ⟨_, rfl, rfl⟩ fnOk13 rfl rfl (fun W hW => dPending_ok W (hW.at (i := 106) rfl) w57_0) (fun v61 m61 hv61 => ?_)
              obtain ⟨rfl, w61_0⟩ := hv61
              refine VO.gy rfl ⟨_, rfl, rfl⟩ (.neq rfl rfl) ?_
              refine VO.y rfl (.pF rfl rfl) ?_
              refine VO.k11 0 1 2 7 8 9 10 16 27 32 92 ?_
              refine VC.cond rfl (fun hc62 => ?_) (fun hc62 => ?_)
              · -- FFFFFFT
                exact absurd (pe_pending (pf_start hz (by omega) (by omega)).2) hc62
              · -- FFFFFFF
                refine VC.skip ?_
                refine outN ?_
                refine VC.seq ?_
                refine VC.rs ?_
                refine VO.as ?_
                refine VO.keep [106, 113, 112, 110, 0] [(106, m61), (113, pm), (112, mone g11 (.cells [Value.slice su0_A (su0.length) (su0_c), Value.slice su1_A (su1.length) (su1_c), Value.slice su2_A (su2.length) (su2_c), Value.slice su3_A (su3.length) (su3_c)].toArray 28 (0, 0))), (110, mone g9 (.cells [Value.slice al0_A (al0.length) (al0_c), Value.slice al1_A (al1.length) (al1_c), Value.slice al2_A (al2.length) (al2_c), Value.slice al3_A (al3.length) (al3_c)].toArray 28 (0, 0))), (0, wm W)] (by kernel_rfl) ?_
                refine VO.k12 0 1 2 7 8 9 10 12 16 27 32 92 ?_
                refine VC.block ?_
                refine VC.loop (G := Nat × DdiskDisk × Mem) (fun g => [(12, Value.int .i64 ((((g.1) : Nat) : Int))), (0, Value.slice A0 (d0.length) (c0)), (1, Value.int .i64 (d1)), (2, Value.int .i64 (d2)), (7, Value.pointer (some ⟨s6_0, 0, none⟩)), (8, Value.pointer (some ⟨g9, 0, none⟩)), (9, Value.pointer (some ⟨g11, 0, none⟩)), (10, Value.int .i64 (((i : Nat) : Int))), (16, Value.bool false), (27, Value.bool (decide (d2 < 0))), (32, Value.bool (decide (((i : Nat) : Int) < ((d0.length : Nat) : Int)))), (92, Value.bool (decide (¬ (dPending ((dStart ((dPull d).1) d1 d2).1)) = 0)))]) (fun g => [(106, (g.2.2)), (113, pm), (112, mone g11 (.cells [Value.slice su0_A (su0.length) (su0_c), Value.slice su1_A (su1.length) (su1_c), Value.slice su2_A (su2.length) (su2_c), Value.slice su3_A (su3.length) (su3_c)].toArray 28 (0, 0))), (110, mone g9 (.cells [Value.slice al0_A (al0.length) (al0_c), Value.slice al1_A (al1.length) (al1_c), Value.slice al2_A (al2.length) (al2_c), Value.slice al3_A (al3.length) (al3_c)].toArray 28 (0, 0))), (0, wm W)]) (fun g => ((g.1) ≤ 4) ∧ (Pe (g.2.1) (al0, al1, al2, al3) (su0, su1, su2, su3)) ∧ (wD (g.2.1) ≤ 200000) ∧ (Ow (.ptr TdiskDisk) (g.2.2) [.pointer (some ⟨s6_0, 0, none⟩)] (s6_0, (g.2.1)))) (fun g => 4 - (g.1)) (0, ((dStart ((dPull d).1) d1 d2).1), m61) (⟨by omega, by exact (pf_start hz (by omega) (by omega)).2, by (dsimp only; omega), w61_0⟩) ⟨⟨rfl, rfl, rfl, rfl, rfl, rfl, rfl, rfl, rfl, rfl, rfl, rfl, trivial⟩, fun _ h => h.sub [106, 113, 112, 110, 0]⟩ ?_
                rintro ⟨f, e, e_m⟩ ⟨hf, he, hw2, h_e⟩
                replace hf : f ≤ 4 := hf
                replace he : Pe e (al0, al1, al2, al3) (su0, su1, su2, su3) := he
                replace hw2 : wD e ≤ 200000 := hw2
                replace h_e : Ow (.ptr TdiskDisk) e_m [.pointer (some ⟨s6_0, 0, none⟩)] (s6_0, e) := h_e
                show VC _ _ _ _ _ [(12, Value.int .i64 (((f : Nat) : Int))), (0, Value.slice A0 (d0.length) (c0)), (1, Value.int .i64 (d1)), (2, Value.int .i64 (d2)), (7, Value.pointer (some ⟨s6_0, 0, none⟩)), (8, Value.pointer (some ⟨g9, 0, none⟩)), (9, Value.pointer (some ⟨g11, 0, none⟩)), (10, Value.int .i64 (((i : Nat) : Int))), (16, Value.bool false), (27, Value.bool (decide (d2 < 0))), (32, Value.bool (decide (((i : Nat) : Int) < ((d0.length : Nat) : Int)))), (92, Value.bool (decide (¬ (dPending ((dStart ((dPull d).1) d1 d2).1)) = 0)))] [(106, e_m), (113, pm), (112, mone g11 (.cells [Value.slice su0_A (su0.length) (su0_c), Value.slice su1_A (su1.length) (su1_c), Value.slice su2_A (su2.length) (su2_c), Value.slice su3_A (su3.length) (su3_c)].toArray 28 (0, 0))), (110, mone g9 (.cells [Value.slice al0_A (al0.length) (al0_c), Value.slice al1_A (al1.length) (al1_c), Value.slice al2_A (al2.length) (al2_c), Value.slice al3_A (al3.length) (al3_c)].toArray 28 (0, 0))), (0, wm W)]
                have hok2 := he.on.ok
                refine VC.seq ?_
                refine VC.rs ?_
                refine VO.mv ?_
                refine VO.y rfl (.lss rfl rfl) ?_
                refine VO.k13 0 1 2 7 8 9 10 12 16 27 32 92 94 ?_
                refine VC.cond rfl (fun hc63 => ?_) (fun hc63 => ?_)
                · -- FFFFFFFT
                  refine VC.skip ?_
                  refine outN ?_
                  refine VC.seq ?_
                  refine VC.block ?_
                  refine VC.rs ?_
                  refine VO.mv ?_
                  refine VO.mv ?_
                  refine VO.call 106 rfl fnOk18 rfl rfl (fun W hW => dRead_ok W (hW.at (i := 106) rfl) h_e ((f : Nat) : Int) (by simp only [inK]; (first | omega | (simp only [List.length_append, List.length_nil, List.length_cons, List.length_take, List.length_drop] at *; omega) | (have h_ := hsm.1 _ (List.mem_of_getElem? ‹d0[_]? = some _›); omega))) (by assumption) (by first | omega | (simp only [List.length_append, List.length_nil, List.length_cons, List.length_take, List.length_drop] at *; omega) | (have h_ := hsm.1 _ (List.mem_of_getElem? ‹d0[_]? = some _›); omega))) (fun v64 m64 hv64 => ?_)
                  obtain ⟨s64_0, p64_0, p64_1, rfl, hS64, f64_0, w64_0⟩ := hv64
                  refine VO.inv _ (fun _ h => h.parts (i := 106) rfl hS64 [165, 166]) ?_
                  have hfa67 := (read_size e ((f : Nat) : Int))
                  obtain ⟨A64_0, c64_0, eq64_0, l64_0, k64_0⟩ := f64_0.slice
                  subst eq64_0
                  simp only [maxLen] at k64_0
                  refine VO.mv ?_
                  refine VO.y rfl (.ext rfl rfl) ?_
                  refine VO.y rfl (.ext rfl rfl) ?_
                  refine VO.as ?_
                  refine VO.as ?_
                  refine VO.k15 0 1 2 7 8 9 10 12 13 14 16 27 32 92 94 ?_
                  refine VC.rs ?_
                  refine VO.mv ?_
                  refine VO.y rfl (.neq rfl rfl) ?_
                  refine VO.mv ?_
                  refine VO.dec (t := 105) rfl (fun hc68 => ?_) (fun hc68 => ?_)
                  · -- FFFFFFFTT
                    exact absurd (by rw [(pe_read (f := ((f : Nat) : Int)) he (by unfold inF; omega)).1]) hc68
                  · -- FFFFFFFTF
                    refine VO.gy rfl ⟨_, rfl, rfl⟩ (.mv rfl) ?_
                    rcases (show ((f : Nat) : Int) = (0 : Int) ∨ ((f : Nat) : Int) = (1 : Int) ∨ ((f : Nat) : Int) = (2 : Int) ∨ ((f : Nat) : Int) = (3 : Int) from by first | omega | (simp only [List.length_append, List.length_nil, List.length_cons, List.length_take, List.length_drop] at *; omega) | (have h_ := hsm.1 _ (List.mem_of_getElem? ‹d0[_]? = some _›); omega)) with hi69 | hi69 | hi69 | hi69
                    · -- FFFFFFFTF0
                      refine VO.gy rfl ⟨_, rfl, rfl⟩ (.ixa (i := 0) (o := 0) rfl rfl tar28 hi69 rfl rfl) ?_
                      refine VO.gy rfl ⟨_, rfl, rfl⟩ (.ld1 110 rfl tk27 rfl (cellsAt_one rfl rfl)) ?_
                      refine VO.gy rfl ⟨_, rfl, rfl⟩ (.mv rfl) ?_
                      refine VO.gcallN 170 rfl ⟨_, rfl, rfl⟩ fnOk19 rfl (fun W hW => begins05_ok W (Rd.mono h_al0 (hW.at (i := 113) rfl)) (OwnL.rd (Ow.ownl f64_0 rfl mnil) (hW.at (i := 165) rfl) (mle_nil _))) (fun v70 m70 hv70 => ?_)
                      subst hv70
                      refine VO.gy rfl ⟨_, rfl, rfl⟩ (.notD rfl) ?_
                      refine VO.y rfl (.pF rfl rfl) ?_
                      refine VO.mv ?_
                      refine VO.dec (t := 113) rfl (fun hc71 => ?_) (fun hc71 => ?_)
                      · -- FFFFFFFTF0T
                        exact absurd (pe_hi0 he ‹_ = (0 : Int)›) hc71
                      · -- FFFFFFFTF0F
                        refine VO.gy rfl ⟨_, rfl, rfl⟩ (.mv rfl) ?_
                        refine VO.gy rfl ⟨_, rfl, rfl⟩ (.mv rfl) ?_
                        refine VO.gy rfl ⟨_, rfl, rfl⟩ (.ixa (i := 0) (o := 0) rfl rfl tar28 hi69 rfl rfl) ?_
                        refine VO.gy rfl ⟨_, rfl, rfl⟩ (.ld1 112 rfl tk27 rfl (cellsAt_one rfl rfl)) ?_
                        refine VO.gcallN 172 rfl ⟨_, rfl, rfl⟩ fnOk19 rfl (fun W hW => begins05_ok W (OwnL.rd (Ow.ownl f64_0 rfl mnil) (hW.at (i := 165) rfl) (mle_nil _)) (Rd.mono h_su0 (hW.at (i := 113) rfl))) (fun v72 m72 hv72 => ?_)
                        subst hv72
                        refine VO.gy rfl ⟨_, rfl, rfl⟩ (.notD rfl) ?_
                        refine VO.y rfl (.pF rfl rfl) ?_
                        refine VO.mv ?_
                        refine VO.dec (t := 121) rfl (fun hc73 => ?_) (fun hc73 => ?_)
                        · -- FFFFFFFTF0FT
                          exact absurd (pe_lo0 he ‹_ = (0 : Int)›) hc73
                        · -- FFFFFFFTF0FF
                          refine VO.gy rfl ⟨_, rfl, rfl⟩ (.mv rfl) ?_
                          refine VO.gy rfl ⟨_, rfl, rfl⟩ (.mv rfl) ?_
                          refine VO.gy rfl ⟨_, rfl, rfl⟩ (.mv rfl) ?_
                          refine VO.gcall 166 rfl ⟨_, rfl, rfl⟩ fnOk21 rfl rfl (fun W hW => dDurable_ok W (hW.at (i := 166) rfl) w64_0 ((f : Nat) : Int) (by simp only [inK]; (first | omega | (simp only [List.length_append, List.length_nil, List.length_cons, List.length_take, List.length_drop] at *; omega) | (have h_ := hsm.1 _ (List.mem_of_getElem? ‹d0[_]? = some _›); omega))) (by first | omega | (simp only [List.length_append, List.length_nil, List.length_cons, List.length_take, List.length_drop] at *; omega) | (have h_ := hsm.1 _ (List.mem_of_getElem? ‹d0[_]? = some _›); omega))) (fun v74 m74 hv74 => ?_)
                          obtain ⟨s74_0, p74_0, p74_1, rfl, hS74, f74_0, w74_0⟩ := hv74
                          refine VO.inv _ (fun _ h => h.parts (i := 166) rfl hS74 [175, 176]) ?_
                          have hfa77 := (durable_size e ((f : Nat) : Int))
                          obtain ⟨A74_0, c74_0, eq74_0, l74_0, k74_0⟩ := f74_0.slice
                          subst eq74_0
                          simp only [maxLen] at k74_0
                          refine VO.gcallN 178 rfl ⟨_, rfl, rfl⟩ fnOk20 rfl (fun W hW => SameBytes_ok W (OwnL.rd (Ow.ownl f64_0 rfl mnil) (hW.at (i := 165) rfl) (mle_nil _)) (OwnL.rd (Ow.ownl f74_0 rfl mnil) (hW.at (i := 175) rfl) (mle_nil _))) (fun v78 m78 hv78 => ?_)
                          subst hv78
                          refine VO.gy rfl ⟨_, rfl, rfl⟩ (.notD rfl) ?_
                          refine VO.y rfl (.pF rfl rfl) ?_
                          refine VO.keep [176, 165, 113, 112, 110, 0] [(176, p74_1), (165, p64_0), (113, pm), (112, mone g11 (.cells [Value.slice su0_A (su0.length) (su0_c), Value.slice su1_A (su1.length) (su1_c), Value.slice su2_A (su2.length) (su2_c), Value.slice su3_A (su3.length) (su3_c)].toArray 28 (0, 0))), (110, mone g9 (.cells [Value.slice al0_A (al0.length) (al0_c), Value.slice al1_A (al1.length) (al1_c), Value.slice al2_A (al2.length) (al2_c), Value.slice al3_A (al3.length) (al3_c)].toArray 28 (0, 0))), (0, wm W)] (by kernel_rfl) ?_
                          refine VO.k16 0 1 2 7 8 9 10 12 13 14 16 27 32 92 94 128 ?_
                          refine VC.cond rfl (fun hc79 => ?_) (fun hc79 => ?_)
                          · -- FFFFFFFTF0FFT
                            exact absurd (by rw [(pe_read (f := ((f : Nat) : Int)) he (by unfold inF; omega)).1, (pe_read (f := ((f : Nat) : Int)) he (by unfold inF; omega)).2.1]) hc79
                          · -- FFFFFFFTF0FFF
                            refine VC.skip ?_
                            refine outBN ?_
                            refine outN ?_
                            refine VC.reg ?_
                            refine VO.mv ?_
                            refine VO.y rfl (.add (c := ((f + 1 : Nat) : Int)) rfl rfl (by omega) ⟨by first | omega | (simp only [List.length_append, List.length_nil, List.length_cons, List.length_take, List.length_drop] at *; omega) | (have h_ := hsm.1 _ (List.mem_of_getElem? ‹d0[_]? = some _›); omega), by first | omega | (simp only [List.length_append, List.length_nil, List.length_cons, List.length_take, List.length_drop] at *; omega) | (have h_ := hsm.1 _ (List.mem_of_getElem? ‹d0[_]? = some _›); omega)⟩) ?_
                            refine VO.as ?_
                            refine VO.k16 0 1 2 7 8 9 10 12 13 14 16 27 32 92 94 128 ?_
                            exact outN ⟨⟨f + 1, e, p74_1⟩, ⟨by omega, by exact he, by (dsimp only; omega), w74_0⟩, by (dsimp only; omega), ⟨⟨rfl, rfl, rfl, rfl, rfl, rfl, rfl, rfl, rfl, rfl, rfl, rfl, trivial⟩, fun _ h => Inv.sub (Inv.num h 176 106 rfl) [106, 113, 112, 110, 0]⟩⟩
                    · -- FFFFFFFTF1
                      refine VO.gy rfl ⟨_, rfl, rfl⟩ (.ixa (i := 1) (o := 1) rfl rfl tar28 hi69 rfl rfl) ?_
                      refine VO.gy rfl ⟨_, rfl, rfl⟩ (.ld1 110 rfl tk27 rfl (cellsAt_one rfl rfl)) ?_
                      refine VO.gy rfl ⟨_, rfl, rfl⟩ (.mv rfl) ?_
                      refine VO.gcallN 180 rfl ⟨_, rfl, rfl⟩ fnOk19 rfl (fun W hW => begins05_ok W (Rd.mono h_al1 (hW.at (i := 113) rfl)) (OwnL.rd (Ow.ownl f64_0 rfl mnil) (hW.at (i := 165) rfl) (mle_nil _))) (fun v80 m80 hv80 => ?_)
                      subst hv80
                      refine VO.gy rfl ⟨_, rfl, rfl⟩ (.notD rfl) ?_
                      refine VO.y rfl (.pF rfl rfl) ?_
                      refine VO.mv ?_
                      refine VO.dec (t := 113) rfl (fun hc81 => ?_) (fun hc81 => ?_)
                      · -- FFFFFFFTF1T
                        exact absurd (pe_hi1 he ‹_ = (1 : Int)›) hc81
                      · -- FFFFFFFTF1F
                        refine VO.gy rfl ⟨_, rfl, rfl⟩ (.mv rfl) ?_
                        refine VO.gy rfl ⟨_, rfl, rfl⟩ (.mv rfl) ?_
                        refine VO.gy rfl ⟨_, rfl, rfl⟩ (.ixa (i := 1) (o := 1) rfl rfl tar28 hi69 rfl rfl) ?_
                        refine VO.gy rfl ⟨_, rfl, rfl⟩ (.ld1 112 rfl tk27 rfl (cellsAt_one rfl rfl)) ?_
                        refine VO.gcallN 182 rfl ⟨_, rfl, rfl⟩ fnOk19 rfl (fun W hW => begins05_ok W (OwnL.rd (Ow.ownl f64_0 rfl mnil) (hW.at (i := 165) rfl) (mle_nil _)) (Rd.mono h_su1 (hW.at (i := 113) rfl))) (fun v82 m82 hv82 => ?_)
                        subst hv82
                        refine VO.gy rfl ⟨_, rfl, rfl⟩ (.notD rfl) ?_
                        refine VO.y rfl (.pF rfl rfl) ?_
                        refine VO.mv ?_
                        refine VO.dec (t := 121) rfl (fun hc83 => ?_) (fun hc83 => ?_)
                        · -- FFFFFFFTF1FT
                          exact absurd (pe_lo1 he ‹_ = (1 : Int)›) hc83
                        · -- FFFFFFFTF1FF
                          refine VO.gy rfl ⟨_, rfl, rfl⟩ (.mv rfl) ?_
                          refine VO.gy rfl ⟨_, rfl, rfl⟩ (.mv rfl) ?_
                          refine VO.gy rfl ⟨_, rfl, rfl⟩ (.mv rfl) ?_
                          refine VO.gcall 166 rfl ⟨_, rfl, rfl⟩ fnOk21 rfl rfl (fun W hW => dDurable_ok W (hW.at (i := 166) rfl) w64_0 ((f : Nat) : Int) (by simp only [inK]; (first | omega | (simp only [List.length_append, List.length_nil, List.length_cons, List.length_take, List.length_drop] at *; omega) | (have h_ := hsm.1 _ (List.mem_of_getElem? ‹d0[_]? = some _›); omega))) (by first | omega | (simp only [List.length_append, List.length_nil, List.length_cons, List.length_take, List.length_drop] at *; omega) | (have h_ := hsm.1 _ (List.mem_of_getElem? ‹d0[_]? = some _›); omega))) (fun v84 m84 hv84 => ?_)
                          obtain ⟨s84_0, p84_0, p84_1, rfl, hS84, f84_0, w84_0⟩ := hv84
                          refine VO.inv _ (fun _ h => h.parts (i := 166) rfl hS84 [185, 186]) ?_
                          have hfa87 := (durable_size e ((f : Nat) : Int))
                          obtain ⟨A84_0, c84_0, eq84_0, l84_0, k84_0⟩ := f84_0.slice
                          subst eq84_0
                          simp only [maxLen] at k84_0
                          refine VO.gcallN 188 rfl ⟨_, rfl, rfl⟩ fnOk20 rfl (fun W hW => SameBytes_ok W (OwnL.rd (Ow.ownl f64_0 rfl mnil) (hW.at (i := 165) rfl) (mle_nil _)) (OwnL.rd (Ow.ownl f84_0 rfl mnil) (hW.at (i := 185) rfl) (mle_nil _))) (fun v88 m88 hv88 => ?_)
                          subst hv88
                          refine VO.gy rfl ⟨_, rfl, rfl⟩ (.notD rfl) ?_
                          refine VO.y rfl (.pF rfl rfl) ?_
                          refine VO.keep [186, 165, 113, 112, 110, 0] [(186, p84_1), (165, p64_0), (113, pm), (112, mone g11 (.cells [Value.slice su0_A (su0.length) (su0_c), Value.slice su1_A (su1.length) (su1_c), Value.slice su2_A (su2.length) (su2_c), Value.slice su3_A (su3.length) (su3_c)].toArray 28 (0, 0))), (110, mone g9 (.cells [Value.slice al0_A (al0.length) (al0_c), Value.slice al1_A (al1.length) (al1_c), Value.slice al2_A (al2.length) (al2_c), Value.slice al3_A (al3.length) (al3_c)].toArray 28 (0, 0))), (0, wm W)] (by kernel_rfl) ?_
                          refine VO.k16 0 1 2 7 8 9 10 12 13 14 16 27 32 92 94 128 ?_
                          refine VC.cond rfl (fun hc89 => ?_) (fun hc89 => ?_)
                          · -- FFFFFFFTF1FFT
                            exact absurd (by rw [(pe_read (f := ((f : Nat) : Int)) he (by unfold inF; omega)).1, (pe_read (f := ((f : Nat) : Int)) he (by unfold inF; omega)).2.1]) hc89
                          · -- FFFFFFFTF1FFF
                            refine VC.skip ?_
                            refine outBN ?_
                            refine outN ?_
                            refine VC.reg ?_
                            refine VO.mv ?_
                            refine VO.y rfl (.add (c := ((f + 1 : Nat) : Int)) rfl rfl (by omega) ⟨by first | omega | (simp only [List.length_append, List.length_nil, List.length_cons, List.length_take, List.length_drop] at *; omega) | (have h_ := hsm.1 _ (List.mem_of_getElem? ‹d0[_]? = some _›); omega), by first | omega | (simp only [List.length_append, List.length_nil, List.length_cons, List.length_take, List.length_drop] at *; omega) | (have h_ := hsm.1 _ (List.mem_of_getElem? ‹d0[_]? = some _›); omega)⟩) ?_
                            refine VO.as ?_
                            refine VO.k16 0 1 2 7 8 9 10 12 13 14 16 27 32 92 94 128 ?_
                            exact outN ⟨⟨f + 1, e, p84_1⟩, ⟨by omega, by exact he, by (dsimp only; omega), w84_0⟩, by (dsimp only; omega), ⟨⟨rfl, rfl, rfl, rfl, rfl, rfl, rfl, rfl, rfl, rfl, rfl, rfl, trivial⟩, fun _ h => Inv.sub (Inv.num h 186 106 rfl) [106, 113, 112, 110, 0]⟩⟩
                    · -- FFFFFFFTF2
                      refine VO.gy rfl ⟨_, rfl, rfl⟩ (.ixa (i := 2) (o := 2) rfl rfl tar28 hi69 rfl rfl) ?_
                      refine VO.gy rfl ⟨_, rfl, rfl⟩ (.ld1 110 rfl tk27 rfl (cellsAt_one rfl rfl)) ?_
                      refine VO.gy rfl ⟨_, rfl, rfl⟩ (.mv rfl) ?_
                      refine VO.gcallN 190 rfl ⟨_, rfl, rfl⟩ fnOk19 rfl (fun W hW => begins05_ok W (Rd.mono h_al2 (hW.at (i := 113) rfl)) (OwnL.rd (Ow.ownl f64_0 rfl mnil) (hW.at (i := 165) rfl) (mle_nil _))) (fun v90 m90 hv90 => ?_)
                      subst hv90
                      refine VO.gy rfl ⟨_, rfl, rfl⟩ (.notD rfl) ?_
                      refine VO.y rfl (.pF rfl rfl) ?_
                      refine VO.mv ?_
                      refine VO.dec (t := 113) rfl (fun hc91 => ?_) (fun hc91 => ?_)
                      · -- FFFFFFFTF2T
                        exact absurd (pe_hi2 he ‹_ = (2 : Int)›) hc91
                      · -- FFFFFFFTF2F
                        refine VO.gy rfl ⟨_, rfl, rfl⟩ (.mv rfl) ?_
                        refine VO.gy rfl ⟨_, rfl, rfl⟩ (.mv rfl) ?_
                        refine VO.gy rfl ⟨_, rfl, rfl⟩ (.ixa (i := 2) (o := 2) rfl rfl tar28 hi69 rfl rfl) ?_
                        refine VO.gy rfl ⟨_, rfl, rfl⟩ (.ld1 112 rfl tk27 rfl (cellsAt_one rfl rfl)) ?_
                        refine VO.gcallN 192 rfl ⟨_, rfl, rfl⟩ fnOk19 rfl (fun W hW => begins05_ok W (OwnL.rd (Ow.ownl f64_0 rfl mnil) (hW.at (i := 165) rfl) (mle_nil _)) (Rd.mono h_su2 (hW.at (i := 113) rfl))) (fun v92 m92 hv92 => ?_)
                        subst hv92
                        refine VO.gy rfl ⟨_, rfl, rfl⟩ (.notD rfl) ?_
                        refine VO.y rfl (.pF rfl rfl) ?_
                        refine VO.mv ?_
                        refine VO.dec (t := 121) rfl (fun hc93 => ?_) (fun hc93 => ?_)
                        · -- FFFFFFFTF2FT
                          exact absurd (pe_lo2 he ‹_ = (2 : Int)›) hc93
                        · -- FFFFFFFTF2FF
                          refine VO.gy rfl ⟨_, rfl, rfl⟩ (.mv rfl) ?_
                          refine VO.gy rfl ⟨_, rfl, rfl⟩ (.mv rfl) ?_
                          refine VO.gy rfl ⟨_, rfl, rfl⟩ (.mv rfl) ?_
                          refine VO.gcall 166 rfl ⟨_, rfl, rfl⟩ fnOk21 rfl rfl (fun W hW => dDurable_ok W (hW.at (i := 166) rfl) w64_0 ((f : Nat) : Int) (by simp only [inK]; (first | omega | (simp only [List.length_append, List.length_nil, List.length_cons, List.length_take, List.length_drop] at *; omega) | (have h_ := hsm.1 _ (List.mem_of_getElem? ‹d0[_]? = some _›); omega))) (by first | omega | (simp only [List.length_append, List.length_nil, List.length_cons, List.length_take, List.length_drop] at *; omega) | (have h_ := hsm.1 _ (List.mem_of_getElem? ‹d0[_]? = some _›); omega))) (fun v94 m94 hv94 => ?_)
                          obtain ⟨s94_0, p94_0, p94_1, rfl, hS94, f94_0, w94_0⟩ := hv94
                          refine VO.inv _ (fun _ h => h.parts (i := 166) rfl hS94 [195, 196]) ?_
                          have hfa97 := (durable_size e ((f : Nat) : Int))
                          obtain ⟨A94_0, c94_0, eq94_0, l94_0, k94_0⟩ := f94_0.slice
                          subst eq94_0
                          simp only [maxLen] at k94_0
                          refine VO.gcallN 198 rfl ⟨_, rfl, rfl⟩ fnOk20 rfl (fun W hW => SameBytes_ok W (OwnL.rd (Ow.ownl f64_0 rfl mnil) (hW.at (i := 165) rfl) (mle_nil _)) (OwnL.rd (Ow.ownl f94_0 rfl mnil) (hW.at (i := 195) rfl) (mle_nil _))) (fun v98 m98 hv98 => ?_)
                          subst hv98
                          refine VO.gy rfl ⟨_, rfl, rfl⟩ (.notD rfl) ?_
                          refine VO.y rfl (.pF rfl rfl) ?_
                          refine VO.keep [196, 165, 113, 112, 110, 0] [(196, p94_1), (165, p64_0), (113, pm), (112, mone g11 (.cells [Value.slice su0_A (su0.length) (su0_c), Value.slice su1_A (su1.length) (su1_c), Value.slice su2_A (su2.length) (su2_c), Value.slice su3_A (su3.length) (su3_c)].toArray 28 (0, 0))), (110, mone g9 (.cells [Value.slice al0_A (al0.length) (al0_c), Value.slice al1_A (al1.length) (al1_c), Value.slice al2_A (al2.length) (al2_c), Value.slice al3_A (al3.length) (al3_c)].toArray 28 (0, 0))), (0, wm W)] (by kernel_rfl) ?_
                          refine VO.k16 0 1 2 7 8 9 10 12 13 14 16 27 32 92 94 128 ?_
                          refine VC.cond rfl (fun hc99 => ?_) (fun hc99 => ?_)
                          · -- FFFFFFFTF2FFT
                            exact absurd (by rw [(pe_read (f := ((f : Nat) : Int)) he (by unfold inF; omega)).1, (pe_read (f := ((f : Nat) : Int)) he (by unfold inF; omega)).2.1]) hc99
                          · -- FFFFFFFTF2FFF
                            refine VC.skip ?_
                            refine outBN ?_
                            refine outN ?_
                            refine VC.reg ?_
                            refine VO.mv ?_
                            refine VO.y rfl (.add (c := ((f + 1 : Nat) : Int)) rfl rfl (by omega) ⟨by first | omega | (simp only [List.length_append, List.length_nil, List.length_cons, List.length_take, List.length_drop] at *; omega) | (have h_ := hsm.1 _ (List.mem_of_getElem? ‹d0[_]? = some _›); omega), by first | omega | (simp only [List.length_append, List.length_nil, List.length_cons, List.length_take, List.length_drop] at *; omega) | (have h_ := hsm.1 _ (List.mem_of_getElem? ‹d0[_]? = some _›); omega)⟩) ?_
                            refine VO.as ?_
                            refine VO.k16 0 1 2 7 8 9 10 12 13 14 16 27 32 92 94 128 ?_
                            exact outN ⟨⟨f + 1, e, p94_1⟩, ⟨by omega, by exact he, by (dsimp only; omega), w94_0⟩, by (dsimp only; omega), ⟨⟨rfl, rfl, rfl, rfl, rfl, rfl, rfl, rfl, rfl, rfl, rfl, rfl, trivial⟩, fun _ h => Inv.sub (Inv.num h 196 106 rfl) [106, 113, 112, 110, 0]⟩⟩
                    · -- FFFFFFFTF3
                      refine VO.gy rfl ⟨_, rfl, rfl⟩ (.ixa (i := 3) (o := 3) rfl rfl tar28 hi69 rfl rfl) ?_
                      refine VO.gy rfl ⟨_, rfl, rfl⟩ (.ld1 110 rfl tk27 rfl (cellsAt_one rfl rfl)) ?_
                      refine VO.gy rfl ⟨_, rfl, rfl⟩ (.mv rfl) ?_
                      refine VO.gcallN 200 rfl ⟨_, rfl, rfl⟩ fnOk19 rfl (fun W hW => begins05_ok W (Rd.mono h_al3 (hW.at (i := 113) rfl)) (OwnL.rd (Ow.ownl f64_0 rfl mnil) (hW.at (i := 165) rfl) (mle_nil _))) (fun v100 m100 hv100 => ?_)
                      subst hv100
                      refine VO.gy rfl ⟨_, rfl, rfl⟩ (.notD rfl) ?_
                      refine VO.y rfl (.pF rfl rfl) ?_
                      refine VO.mv ?_
                      refine VO.dec (t := 113) rfl (fun hc101 => ?_) (fun hc101 => ?_)
                      · -- FFFFFFFTF3T
                        exact absurd (pe_hi3 he ‹_ = (3 : Int)›) hc101
                      · -- FFFFFFFTF3F
                        refine VO.gy rfl ⟨_, rfl, rfl⟩ (.mv rfl) ?_
                        refine VO.gy rfl ⟨_, rfl, rfl⟩ (.mv rfl) ?_
                        refine VO.gy rfl ⟨_, rfl, rfl⟩ (.ixa (i := 3) (o := 3) rfl rfl tar28 hi69 rfl rfl) ?_
                        refine VO.gy rfl ⟨_, rfl, rfl⟩ (.ld1 112 rfl tk27 rfl (cellsAt_one rfl rfl)) ?_
                        refine VO.gcallN 202 rfl ⟨_, rfl, rfl⟩ fnOk19 rfl (fun W hW => begins05_ok W (OwnL.rd (Ow.ownl f64_0 rfl mnil) (hW.at (i := 165) rfl) (mle_nil _)) (Rd.mono h_su3 (hW.at (i := 113) rfl))) (fun v102 m102 hv102 => ?_)
                        subst hv102
                        refine VO.gy rfl ⟨_, rfl, rfl⟩ (.notD rfl) ?_
                        refine VO.y rfl (.pF rfl rfl) ?_
                        refine VO.mv ?_
                        refine VO.dec (t := 121) rfl (fun hc103 => ?_) (fun hc103 => ?_)
                        · -- FFFFFFFTF3FT
                          exact absurd (pe_lo3 he ‹_ = (3 : Int)›) hc103
                        · -- FFFFFFFTF3FF
                          refine VO.gy rfl ⟨_, rfl, rfl⟩ (.mv rfl) ?_
                          refine VO.gy rfl ⟨_, rfl, rfl⟩ (.mv rfl) ?_
                          refine VO.gy rfl ⟨_, rfl, rfl⟩ (.mv rfl) ?_
                          refine VO.gcall 166 rfl ⟨_, rfl, rfl⟩ fnOk21 rfl rfl (fun W hW => dDurable_ok W (hW.at (i := 166) rfl) w64_0 ((f : Nat) : Int) (by simp only [inK]; (first | omega | (simp only [List.length_append, List.length_nil, List.length_cons, List.length_take, List.length_drop] at *; omega) | (have h_ := hsm.1 _ (List.mem_of_getElem? ‹d0[_]? = some _›); omega))) (by first | omega | (simp only [List.length_append, List.length_nil, List.length_cons, List.length_take, List.length_drop] at *; omega) | (have h_ := hsm.1 _ (List.mem_of_getElem? ‹d0[_]? = some _›); omega))) (fun v104 m104 hv104 => ?_)
                          obtain ⟨s104_0, p104_0, p104_1, rfl, hS104, f104_0, w104_0⟩ := hv104
                          refine VO.inv _ (fun _ h => h.parts (i := 166) rfl hS104 [205, 206]) ?_
                          have hfa107 := (durable_size e ((f : Nat) : Int))
                          obtain ⟨A104_0, c104_0, eq104_0, l104_0, k104_0⟩ := f104_0.slice
                          subst eq104_0
                          simp only [maxLen] at k104_0
                          refine VO.gcallN 208 rfl ⟨_, rfl, rfl⟩ fnOk20 rfl (fun W hW => SameBytes_ok W (OwnL.rd (Ow.ownl f64_0 rfl mnil) (hW.at (i := 165) rfl) (mle_nil _)) (OwnL.rd (Ow.ownl f104_0 rfl mnil) (hW.at (i := 205) rfl) (mle_nil _))) (fun v108 m108 hv108 => ?_)
                          subst hv108
                          refine VO.gy rfl ⟨_, rfl, rfl⟩ (.notD rfl) ?_
                          refine VO.y rfl (.pF rfl rfl) ?_
                          refine VO.keep [206, 165, 113, 112, 110, 0] [(206, p104_1), (165, p64_0), (113, pm), (112, mone g11 (.cells [Value.slice su0_A (su0.length) (su0_c), Value.slice su1_A (su1.length) (su1_c), Value.slice su2_A (su2.length) (su2_c), Value.slice su3_A (su3.length) (su3_c)].toArray 28 (0, 0))), (110, mone g9 (.cells [Value.slice al0_A (al0.length) (al0_c), Value.slice al1_A (al1.length) (al1_c), Value.slice al2_A (al2.length) (al2_c), Value.slice al3_A (al3.length) (al3_c)].toArray 28 (0, 0))), (0, wm W)] (by kernel_rfl) ?_
                          refine VO.k16 0 1 2 7 8 9 10 12 13 14 16 27 32 92 94 128 ?_
                          refine VC.cond rfl (fun hc109 => ?_) (fun hc109 => ?_)
                          · -- FFFFFFFTF3FFT
                            exact absurd (by rw [(pe_read (f := ((f : Nat) : Int)) he (by unfold inF; omega)).1, (pe_read (f := ((f : Nat) : Int)) he (by unfold inF; omega)).2.1]) hc109
                          · -- FFFFFFFTF3FFF
                            refine VC.skip ?_
                            refine outBN ?_
                            refine outN ?_
                            refine VC.reg ?_
                            refine VO.mv ?_
                            refine VO.y rfl (.add (c := ((f + 1 : Nat) : Int)) rfl rfl (by omega) ⟨by first | omega | (simp only [List.length_append, List.length_nil, List.length_cons, List.length_take, List.length_drop] at *; omega) | (have h_ := hsm.1 _ (List.mem_of_getElem? ‹d0[_]? = some _›); omega), by first | omega | (simp only [List.length_append, List.length_nil, List.length_cons, List.length_take, List.length_drop] at *; omega) | (have h_ := hsm.1 _ (List.mem_of_getElem? ‹d0[_]? = some _›); omega)⟩) ?_
                            refine VO.as ?_
                            refine VO.k16 0 1 2 7 8 9 10 12 13 14 16 27 32 92 94 128 ?_
                            exact outN ⟨⟨f + 1, e, p104_1⟩, ⟨by omega, by exact he, by (dsimp only; omega), w104_0⟩, by (dsimp only; omega), ⟨⟨rfl, rfl, rfl, rfl, rfl, rfl, rfl, rfl, rfl, rfl, rfl, rfl, trivial⟩, fun _ h => Inv.sub (Inv.num h 206 106 rfl) [106, 113, 112, 110, 0]⟩⟩
                · -- FFFFFFFF
                  refine VC.exit ?_
                  refine outE ?_
                  refine outE ?_
                  refine outBB ?_
                  refine outN ?_
                  refine VC.rs ?_
                  refine VO.as ?_
                  refine VO.k14 0 1 2 6 7 8 9 10 12 16 27 32 92 94 ?_
                  refine VC.ret ?_
                  refine ⟨_, _, res_run (rs := [.tmp 6]) rfl (.tmp rfl .nil), fun W_ hI => out_of (l := []) hI [] rfl rfl (mle_refl _) (fun hS_ => ?_)⟩
                  dsimp only [packV]
                  all_goals (first | rfl | (simp [*]; done))
end
section
set_option linter.unusedVariables false
set_option maxRecDepth 4000
open Go.ChangeShapes Go.WideShapes Go.ChangeAt Go.RowKit
theorem diskPrefix_ok0 : tyOk Try.prog 60 (.sl Tlaw05Act) (.inl 22) = true := by kernel_rfl
set_option maxRecDepth 100000 in
theorem diskPrefix_lifted (os : Os) (started : os.Started) (H : Type) (enc : TypeId × Value → H) :
    ReturnsInHanded {} Try.checked os 3 .any (Rows.diskPrefixSpec.pre6 enc Try.prog Try.f3 Rows.diskPrefixRow.domain false) (Rows.diskPrefixSpec.post enc Try.prog Try.f3 false true false false) := by
  refine returnsInHanded_of_change (C := Try.checked) (by kernel_rfl) started (by kernel_rfl) Try.func3
    (ChangeSpec.witness6 (enc := enc) (C := Try.checked) false ⟨#[], #[.slice none 0 0, .int .i64 0, .int .i64 0], []⟩ 8 (by kernel_rfl) (by kernel_rfl) (by kernel_rfl) (by kernel_rfl)) ?_
  intro W base args ds gs before hval0 hW hcnd _
  have hval : ∀ (j : Nat) t v, Try.f3.params[j]? = some t → args[j]? = some v → Value.okWide Try.prog W .any base t v := hval0
  have hW' := hW
  obtain ⟨p, q, hA0, hV, rfl, hfz, hnd⟩ := hW
  have hA : DataW.TrodAll enc Try.prog W 0 (fun _ => true) true Try.f3.params.toList args.toList ds p := hA0
  rw [Try.params3] at hA hval
  clear hA0 hval0
  obtain ⟨args⟩ := args
  obtain ⟨v0, r0, d0, e0, p0, q0, ha0, rfl, rfl, h0, hA0⟩ := trodAll_cons hA
  simp only at ha0; subst ha0
  obtain ⟨v1, r1, d1, e1, p1, q1, ha1, rfl, rfl, h1, hA1⟩ := trodAll_cons hA0
  subst ha1
  obtain ⟨v2, r2, d2, e2, p2, q2, ha2, rfl, rfl, h2, hA2⟩ := trodAll_cons hA1
  subst ha2
  obtain ⟨rfl, rfl, rfl⟩ := trodAll_nil hA2
  obtain ⟨x0, hx0⟩ := arg_sl 60 diskPrefix_ok0 Try.underlying22 (hval 0 22 v0 rfl rfl) h0
  obtain ⟨x1, rfl, hx1⟩ := arg_int Try.underlying3 (hval 1 3 v1 rfl rfl) h1
  obtain ⟨x2, rfl, hx2⟩ := arg_int Try.underlying3 (hval 2 3 v2 rfl rfl) h2
  refine (calls_of (diskPrefix_ok W hx0 x1 hx1 x2 hx2)).mono fun e W' ⟨he, hg⟩ => ?_
  subst he
  exact ⟨_, rfl, law_post hW' hg laidOut_ok (by kernel_rfl) rfl Try.underlying4 rfl rfl rfl rfl⟩
theorem diskPrefix_joined : joinedFacts Try.prog 3 Try.f3 Rows.diskPrefixSpec Rows.diskPrefixRow = true := by
  unfold joinedFacts
  rw [laidOut_ok, mapsRowed_ok, stopsHeard_ok, mayEnter_ok, lifts_ok, make_ok]
  kernel_rfl
theorem diskPrefix_proved : Rows.DiskPrefixSaid :=
  OpenClaim.holds_of_wide 3 Try.f3 rfl rfl rfl rfl rfl rfl rfl ⟨rfl, rfl, rfl, rfl, rfl⟩ rfl rfl rfl rfl rfl (by kernel_rfl) Try.func3 diskPrefix_joined
    (of_decide_eq_true (by kernel_rfl)) (by unfold Func.isWrapper; first | (rw [if_pos (by decide +kernel)]; kernel_rfl) | (rw [if_neg (by decide +kernel)]; exact ⟨rfl, rfl⟩))
    (fun os started H enc _ => diskPrefix_lifted os started H enc)
#print axioms diskPrefix_proved
end
end Go.Proofs.Ytmhalhadgclffaa
