/- Part 3 of the proof of LStoreNil: what it needs of the library, the walks and the plain laws. Conditions: those named in each theorem. -/
import Derived.Test.YtonbpfncmlijnaaGreatLStoreNilM2
set_option linter.unusedVariables false
set_option linter.unusedSimpArgs false
set_option maxRecDepth 4000
namespace Go.Proofs.YtonbpfncmlijnaaGreat
theorem fnOk158 : fnOk Tryz.prog 158 = true := by kernel_rfl
theorem fnOk134 : fnOk Tryz.prog 134 = true := by kernel_rfl
theorem opText_ok (W : World) {v0 : Value} {d0 : List UInt8} (h0 : Rd (.sl .byte) (wm W) [v0] d0) (d1 : Int) (h1 : inK .i64 d1) (e0 : 0 ≤ d1 ∧ d1 ≤ 1000) : CallR Tryz.prog 158 [v0, .int .i64 d1] W (mnil) (fun v m' => v = .tuple #[str ((tRd d0 d1).1), .int .i64 ((tRd d0 d1).2.1), .bool ((tRd d0 d1).2.2)]) := by
  obtain ⟨A0, c0, rfl, l0, k0⟩ := h0.slice
  simp only [maxLen] at k0
  have h1' := h1; simp only [inK] at h1'
  refine CallR.ofA (n := 37) Tryz.func158 rfl rfl rfl ?_
  refine VC.rs ?_
  refine VO.as ?_
  refine VO.as ?_
  refine VO.as ?_
  refine VO.k5 0 1 4 5 6 ?_
  refine VC.rs ?_
  refine VO.mv ?_
  refine VO.mv ?_
  refine VO.callN 101 rfl fnOk134 rfl (fun W hW => vSmall_ok W (Rd.mono h0 (hW.at (i := 0) rfl)) d1 bdk) (fun v1 m1 hv1 => ?_)
  subst hv1
  have hfa2 := s_bounds d0 d1 (by omega)
  refine VO.mv ?_
  refine VO.y rfl (.ext rfl rfl) ?_
  refine VO.y rfl (.ext rfl rfl) ?_
  refine VO.y rfl (.ext rfl rfl) ?_
  refine VO.as ?_
  refine VO.as ?_
  refine VO.as ?_
  refine VO.k8 0 1 4 5 6 7 8 9 ?_
  refine VC.seq ?_
  refine VC.rs ?_
  refine VO.mv ?_
  refine VO.y rfl (.neq rfl rfl) ?_
  refine VO.mv ?_
  refine VO.dec (t := 19) rfl (fun hc3 => ?_) (fun hc3 => ?_)
  · -- T
    refine VO.gN ?_
    refine VO.gN ?_
    refine VO.gN ?_
    refine VO.gN ?_
    refine VO.gN ?_
    refine VO.gN ?_
    refine VO.y rfl (.pT rfl rfl) ?_
    refine VO.kp [0] [(0, wm W)] ?_
    refine VO.k9 0 1 4 5 6 7 8 9 26 ?_
    refine VC.condT rfl ?_
    refine VC.rs ?_
    refine VO.as ?_
    refine VO.as ?_
    refine VO.as ?_
    refine VO.k9 0 1 4 5 6 7 8 9 26 ?_
    refine VC.ret ?_
    refine outR ?_
    refine ⟨_, _, res_run (rs := [.tmp 4, .tmp 5, .tmp 6]) rfl (.tmp rfl (.tmp rfl (.tmp rfl .nil))), fun W_ hI => out_of (l := []) hI [] rfl rfl (mle_refl _) (fun hS_ => ?_)⟩
    dsimp only [packV]
    all_goals (first | rfl | (first | (rw [tRd_no1 (by assumption)] <;> first | rfl | done) | (rw [tRd_no2 (by omega)] <;> first | rfl | done) | (rw [tRd_yes (by assumption) (by omega)] <;> first | rfl | done)))
  · -- F
    refine VO.gy rfl ⟨_, rfl, rfl⟩ (.mv rfl) ?_
    refine VO.gy rfl ⟨_, rfl, rfl⟩ (.lenS rfl tsl97) ?_
    refine VO.gy rfl ⟨_, rfl, rfl⟩ (.mv rfl) ?_
    refine VO.gy rfl ⟨_, rfl, rfl⟩ (.mv rfl) ?_
    refine VO.gy rfl ⟨_, rfl, rfl⟩ (.add (c := ((sN d0 d1 + (sX d0 d1) : Nat) : Int)) rfl rfl (by omega) ⟨bd, bd⟩) ?_
    refine VO.gy rfl ⟨_, rfl, rfl⟩ (.lss rfl rfl) ?_
    refine VO.y rfl (.pF rfl rfl) ?_
    refine VO.kp [0] [(0, wm W)] ?_
    refine VO.k9 0 1 4 5 6 7 8 9 26 ?_
    refine VC.cond rfl (fun hc4 => ?_) (fun hc4 => ?_)
    · -- FT
      refine VC.rs ?_
      refine VO.as ?_
      refine VO.as ?_
      refine VO.as ?_
      refine VO.k9 0 1 4 5 6 7 8 9 26 ?_
      refine VC.ret ?_
      refine outR ?_
      refine ⟨_, _, res_run (rs := [.tmp 4, .tmp 5, .tmp 6]) rfl (.tmp rfl (.tmp rfl (.tmp rfl .nil))), fun W_ hI => out_of (l := []) hI [] rfl rfl (mle_refl _) (fun hS_ => ?_)⟩
      dsimp only [packV]
      all_goals (first | rfl | (first | (rw [tRd_no1 (by assumption)] <;> first | rfl | done) | (rw [tRd_no2 (by omega)] <;> first | rfl | done) | (rw [tRd_yes (by assumption) (by omega)] <;> first | rfl | done)))
    · -- FF
      refine VC.skip ?_
      refine outN ?_
      refine VC.rs ?_
      refine VO.mv ?_
      refine VO.mv ?_
      refine VO.mv ?_
      refine VO.mv ?_
      refine VO.y rfl (.add (c := ((sN d0 d1 + (sX d0 d1) : Nat) : Int)) rfl rfl (by omega) ⟨bd, bd⟩) ?_
      obtain ⟨A5, hA5, hs5⟩ := h0.sub' 1 (sN d0 d1) (sN d0 d1 + (sX d0 d1)) rfl bd bd
      refine VO.y rfl (.slI (sN d0 d1) (sN d0 d1 + (sX d0 d1)) A5 rfl rfl rfl tsl97 rfl rfl hA5 bd bd) ?_
      refine VO.y rfl (.b2s 0 rfl Tryz.underlying97 Tryz.underlying9 Tryz.underlying5 rfl hs5) ?_
      refine VO.mv ?_
      refine VO.mv ?_
      refine VO.y rfl (.add (c := ((sN d0 d1 + (sX d0 d1) : Nat) : Int)) rfl rfl (by omega) ⟨bd, bd⟩) ?_
      refine VO.as ?_
      refine VO.as ?_
      refine VO.as ?_
      refine VO.k9 0 1 4 5 6 7 8 9 26 ?_
      refine VC.ret ?_
      refine ⟨_, _, res_run (rs := [.tmp 4, .tmp 5, .tmp 6]) rfl (.tmp rfl (.tmp rfl (.tmp rfl .nil))), fun W_ hI => out_of (l := []) hI [] rfl rfl (mle_refl _) (fun hS_ => ?_)⟩
      dsimp only [packV]
      all_goals (first | rfl | (first | (rw [tRd_no1 (by assumption)] <;> first | rfl | done) | (rw [tRd_no2 (by omega)] <;> first | rfl | done) | (rw [tRd_yes (by assumption) (by omega)] <;> first | rfl | done)))
theorem fin0_opRead_ok {P : Prop} (h : P := by first | (rw [opRd_nil (by assumption)] <;> first | rfl | done) | (rw [opRd_kind ‹d0[0]? = some _› (by omega)] <;> first | rfl | done) | (rw [opRd_key (by assumption)] <;> first | rfl | done) | (rw [opRd_val (by assumption) ‹d0[0]? = some _› (by omega) (by assumption) (by omega) (by assumption)] <;> first | rfl | done) | (rw [opRd_put (by assumption) ‹d0[0]? = some _› (by omega) (by assumption) (by omega) (by assumption), opEnd_bad (by assumption)] <;> first | rfl | done) | (rw [opRd_put (by assumption) ‹d0[0]? = some _› (by omega) (by assumption) (by omega) (by assumption), opEnd_good (by assumption)] <;> first | rfl | done) | (rw [opRd_del (by assumption) ‹d0[0]? = some _› (by omega) (by assumption) (by omega), opEnd_bad (by assumption)] <;> first | rfl | done) | (rw [opRd_del (by assumption) ‹d0[0]? = some _› (by omega) (by assumption) (by omega), opEnd_good (by assumption)] <;> first | rfl | done)) : P := h
theorem opRead_ok (W : World) {v0 : Value} {d0 : List UInt8} (h0 : Rd (.sl .byte) (wm W) [v0] d0) : CallR Tryz.prog 135 [v0] W (mnil) (fun v m' => ∃ (s0 : List Value), v = .tuple #[.agg s0.toArray, .int .i64 ((opRd d0).2.1), .int .i64 ((opRd d0).2.2)] ∧ Ow TOp m' s0 ((opRd d0).1)) := by
  obtain ⟨A0, c0, rfl, l0, k0⟩ := h0.slice
  simp only [maxLen] at k0
  refine CallR.ofA (n := 65) Tryz.func135 rfl rfl rfl ?_
  refine VC.rs ?_
  refine VO.alloc 102 rfl tz64 (fun g1 => ?_)
  refine VO.as ?_
  refine VO.as ?_
  refine VO.k4 0 2 3 4 ?_
  refine VC.seq ?_
  refine VC.rs ?_
  refine VO.mv ?_
  refine VO.y rfl (.lenS rfl tsl97) ?_
  refine VO.y rfl (.eql rfl rfl) ?_
  refine VO.mv ?_
  refine VO.dec (t := 15) rfl (fun hc3 => ?_) (fun hc3 => ?_)
  · -- T
    refine VO.gN ?_
    refine VO.gN ?_
    refine VO.gN ?_
    refine VO.gN ?_
    refine VO.y rfl (.pT rfl rfl) ?_
    refine VO.k5 0 2 3 4 20 ?_
    refine VC.condT rfl ?_
    refine VC.rs ?_
    refine VO.y rfl (.bst (cs := [Value.bool false, str ([]), str ([])]) rfl tst64 tz64 rfl) ?_
    refine VO.store (k := 3) (c' := [Value.bool false, str ([]), str ([])]) 102 rfl rfl (.inl tk64) rfl rfl rfl rfl rfl ?_
    refine VO.as ?_
    refine VO.as ?_
    refine VO.kp [102, 0] [(102, mone g1 (.cells [Value.bool false, str ([]), str ([])].toArray 64 (0, 0))), (0, wm W)] ?_
    refine VO.k5 0 2 3 4 20 ?_
    refine VC.ret ?_
    refine outR ?_
    refine ⟨_, _, res_run (rs := [.cell 2 64, .tmp 3, .tmp 4]) rfl (.agg 102 rfl tk64 rfl ⟨_, _, _, mone_self _ _, Nat.le_of_ble_eq_true rfl, rfl⟩ (.tmp rfl (.tmp rfl .nil))), fun W_ hI => out_of (l := []) hI [] rfl rfl (mle_refl _) (fun hS_ => ?_)⟩
    dsimp only [packV]
    have he0 : ((opRd d0).1 : Ty.Den TOp) = (false, [], []) := by first | rfl | (exact fin0_opRead_ok)
    refine ⟨[Value.bool false, str ([]), str ([])], ?_, ?_⟩
    rotate_left
    · rw [he0]; exact (Ow.of (m := mnil) rfl (mk_Op (m := _) false [] [] bdm bdm))
    all_goals (first | rfl | (exact fin0_opRead_ok))
  · -- F
    refine VO.gy rfl ⟨_, rfl, rfl⟩ (.mv rfl) ?_
    obtain ⟨x4, hx4⟩ : ∃ z_, (d0)[0]? = some z_ := ⟨_, List.getElem?_eq_getElem bd⟩
    obtain ⟨gg4, oo4, ec4, ea4, hce4, hre4⟩ := h0.elem hx4
    cases ea4
    obtain rfl := (show _ = _ from hre4)
    have xb4 := x4.toNat_lt
    refine VO.gy rfl ⟨_, rfl, rfl⟩ (.ixI 0 rfl rfl tsl97 rfl bd) ?_
    refine VO.gy rfl ⟨_, rfl, rfl⟩ (.ld1 0 rfl tk5 rfl hce4) ?_
    refine VO.gy rfl ⟨_, rfl, rfl⟩ (.gtr rfl rfl) ?_
    refine VO.y rfl (.pF rfl rfl) ?_
    refine VO.k5 0 2 3 4 20 ?_
    refine VC.cond rfl (fun hc5 => ?_) (fun hc5 => ?_)
    · -- FT
      refine VC.rs ?_
      refine VO.y rfl (.bst (cs := [Value.bool false, str ([]), str ([])]) rfl tst64 tz64 rfl) ?_
      refine VO.store (k := 3) (c' := [Value.bool false, str ([]), str ([])]) 102 rfl rfl (.inl tk64) rfl rfl rfl rfl rfl ?_
      refine VO.as ?_
      refine VO.as ?_
      refine VO.kp [102, 0] [(102, mone g1 (.cells [Value.bool false, str ([]), str ([])].toArray 64 (0, 0))), (0, wm W)] ?_
      refine VO.k5 0 2 3 4 20 ?_
      refine VC.ret ?_
      refine outR ?_
      refine ⟨_, _, res_run (rs := [.cell 2 64, .tmp 3, .tmp 4]) rfl (.agg 102 rfl tk64 rfl ⟨_, _, _, mone_self _ _, Nat.le_of_ble_eq_true rfl, rfl⟩ (.tmp rfl (.tmp rfl .nil))), fun W_ hI => out_of (l := []) hI [] rfl rfl (mle_refl _) (fun hS_ => ?_)⟩
      dsimp only [packV]
      have he0 : ((opRd d0).1 : Ty.Den TOp) = (false, [], []) := by first | rfl | (exact fin0_opRead_ok)
      refine ⟨[Value.bool false, str ([]), str ([])], ?_, ?_⟩
      rotate_left
      · rw [he0]; exact (Ow.of (m := mnil) rfl (mk_Op (m := _) false [] [] bdm bdm))
      all_goals (first | rfl | (exact fin0_opRead_ok))
    · -- FF
      refine VC.skip ?_
      refine outN ?_
      refine VC.rs ?_
      refine VO.mv ?_
      refine VO.y rfl (.ixI 0 rfl rfl tsl97 rfl bd) ?_
      refine VO.y rfl (.ld1 0 rfl tk5 rfl hce4) ?_
      refine VO.y rfl (.eql rfl rfl) ?_
      refine VO.y rfl (.bst (cs := [Value.bool (decide (((x4.toNat : Nat) : Int) = 1)), str ([]), str ([])]) rfl tst64 tz64 rfl) ?_
      refine VO.alloc 108 rfl tz64 (fun g7 => ?_)
      refine VO.store (k := 3) (c' := [Value.bool (decide (((x4.toNat : Nat) : Int) = 1)), str ([]), str ([])]) 108 rfl rfl (.inl tk64) rfl rfl rfl rfl rfl ?_
      refine VO.kp [108, 102, 0] [(108, mone g7 (.cells [Value.bool (decide (((x4.toNat : Nat) : Int) = 1)), str ([]), str ([])].toArray 64 (0, 0))), (102, mone g1 (.cells [Value.bool false, str ([]), str ([])].toArray 64 (0, 0))), (0, wm W)] ?_
      refine VO.k6 0 2 3 4 5 20 ?_
      refine VC.rs ?_
      refine VO.mv ?_
      obtain ⟨A9, hA9, hs9⟩ := h0.drop 1 1 rfl bd
      refine VO.y rfl (.slLI 1 A9 rfl rfl tsl97 rfl hA9 bd) ?_
      refine VO.callN 110 rfl fnOk158 rfl (fun W hW => opText_ok W (Rd.mono hs9 (hW.at (i := 0) rfl)) 16 bdk (by first | decide | omega)) (fun v10 m10 hv10 => ?_)
      subst hv10
      have hfa11 := tRd_fits (d0.drop 1) (m := 16) (by omega) (by omega)
      refine VO.mv ?_
      refine VO.y rfl (.ext rfl rfl) ?_
      refine VO.y rfl (.ext rfl rfl) ?_
      refine VO.y rfl (.ext rfl rfl) ?_
      refine VO.as ?_
      refine VO.as ?_
      refine VO.as ?_
      refine VO.k9 0 2 3 4 5 6 7 8 20 ?_
      refine VC.seq ?_
      refine VC.rs ?_
      refine VO.mv ?_
      refine VO.y rfl (.not rfl) ?_
      refine VO.k10 0 2 3 4 5 6 7 8 20 35 ?_
      refine VC.condBN rfl (fun hc12 => ?_) (fun hc12 => ?_)
      · -- FFT
        refine VC.rs ?_
        refine VO.y rfl (.bst (cs := [Value.bool false, str ([]), str ([])]) rfl tst64 tz64 rfl) ?_
        refine VO.store (k := 3) (c' := [Value.bool false, str ([]), str ([])]) 102 rfl rfl (.inl tk64) rfl rfl rfl rfl rfl ?_
        refine VO.as ?_
        refine VO.as ?_
        refine VO.kp [108, 102, 0] [(108, mone g7 (.cells [Value.bool (decide (((x4.toNat : Nat) : Int) = 1)), str ([]), str ([])].toArray 64 (0, 0))), (102, mone g1 (.cells [Value.bool false, str ([]), str ([])].toArray 64 (0, 0))), (0, wm W)] ?_
        refine VO.k10 0 2 3 4 5 6 7 8 20 35 ?_
        refine VC.ret ?_
        refine outR ?_
        refine ⟨_, _, res_run (rs := [.cell 2 64, .tmp 3, .tmp 4]) rfl (.agg 102 rfl tk64 rfl ⟨_, _, _, mone_self _ _, Nat.le_of_ble_eq_true rfl, rfl⟩ (.tmp rfl (.tmp rfl .nil))), fun W_ hI => out_of (l := []) hI [] rfl rfl (mle_refl _) (fun hS_ => ?_)⟩
        dsimp only [packV]
        have he0 : ((opRd d0).1 : Ty.Den TOp) = (false, [], []) := by first | rfl | (exact fin0_opRead_ok)
        refine ⟨[Value.bool false, str ([]), str ([])], ?_, ?_⟩
        rotate_left
        · rw [he0]; exact (Ow.of (m := mnil) rfl (mk_Op (m := _) false [] [] bdm bdm))
        all_goals (first | rfl | (exact fin0_opRead_ok))
      · -- FFF
        refine VC.skip ?_
        refine outN ?_
        refine VC.rs ?_
        refine VO.mv ?_
        refine VO.mv ?_
        refine VO.y rfl (.add rfl rfl rfl ⟨bd, bd⟩) ?_
        refine VO.y rfl (.fa rfl tst64 rfl) ?_
        refine VO.store (k := 1) (c' := [Value.bool (decide (((x4.toNat : Nat) : Int) = 1)), str ((tRd (d0.drop 1) 16).1), str ([])]) 108 rfl rfl (.inr ⟨tk9, rfl⟩) rfl rfl rfl rfl rfl ?_
        refine VO.as ?_
        refine VO.kp [108, 102, 0] [(108, mone g7 (.cells [Value.bool (decide (((x4.toNat : Nat) : Int) = 1)), str ((tRd (d0.drop 1) 16).1), str ([])].toArray 64 (0, 0))), (102, mone g1 (.cells [Value.bool false, str ([]), str ([])].toArray 64 (0, 0))), (0, wm W)] ?_
        refine VO.k10 0 2 3 4 5 6 7 8 20 35 ?_
        refine VC.seq ?_
        refine VC.rs ?_
        refine VO.y rfl (.fa rfl tst64 rfl) ?_
        refine VO.y rfl (.ld1 108 rfl tk4 rfl (cellsAt_one rfl rfl)) ?_
        refine VO.k11 0 2 3 4 5 6 7 8 20 35 42 ?_
        refine VC.cond rfl (fun hc13 => ?_) (fun hc13 => ?_)
        · -- FFFT
          refine VC.rs ?_
          refine VO.mv ?_
          refine VO.mv ?_
          obtain ⟨A14, hA14, hs14⟩ := h0.drop 1 ((1 + ((tRd (d0.drop 1) 16).2.1)).toNat) rfl bd
          refine VO.y rfl (.slLI ((1 + ((tRd (d0.drop 1) 16).2.1)).toNat) A14 rfl rfl tsl97 bd hA14 bd) ?_
          refine VO.callN 115 rfl fnOk158 rfl (fun W hW => opText_ok W (Rd.mono hs14 (hW.at (i := 0) rfl)) 32 bdk (by first | decide | omega)) (fun v15 m15 hv15 => ?_)
          subst hv15
          have hfa16 := tRd_fits (d0.drop ((1 + ((tRd (d0.drop 1) 16).2.1)).toNat)) (m := 32) (by omega) (by omega)
          refine VO.mv ?_
          refine VO.y rfl (.ext rfl rfl) ?_
          refine VO.y rfl (.ext rfl rfl) ?_
          refine VO.y rfl (.ext rfl rfl) ?_
          refine VO.as ?_
          refine VO.as ?_
          refine VO.as ?_
          refine VO.k14 0 2 3 4 5 6 7 8 9 10 11 20 35 42 ?_
          refine VC.seq ?_
          refine VC.rs ?_
          refine VO.mv ?_
          refine VO.y rfl (.not rfl) ?_
          refine VO.kp [108, 102, 0] [(108, mone g7 (.cells [Value.bool (decide (((x4.toNat : Nat) : Int) = 1)), str ((tRd (d0.drop 1) 16).1), str ([])].toArray 64 (0, 0))), (102, mone g1 (.cells [Value.bool false, str ([]), str ([])].toArray 64 (0, 0))), (0, wm W)] ?_
          refine VO.k15 0 2 3 4 5 6 7 8 9 10 11 20 35 42 52 ?_
          refine VC.condBN rfl (fun hc17 => ?_) (fun hc17 => ?_)
          · -- FFFTT
            refine VC.rs ?_
            refine VO.y rfl (.bst (cs := [Value.bool false, str ([]), str ([])]) rfl tst64 tz64 rfl) ?_
            refine VO.store (k := 3) (c' := [Value.bool false, str ([]), str ([])]) 102 rfl rfl (.inl tk64) rfl rfl rfl rfl rfl ?_
            refine VO.as ?_
            refine VO.as ?_
            refine VO.k15 0 2 3 4 5 6 7 8 9 10 11 20 35 42 52 ?_
            refine VC.ret ?_
            refine outR ?_
            refine outR ?_
            refine ⟨_, _, res_run (rs := [.cell 2 64, .tmp 3, .tmp 4]) rfl (.agg 102 rfl tk64 rfl ⟨_, _, _, mone_self _ _, Nat.le_of_ble_eq_true rfl, rfl⟩ (.tmp rfl (.tmp rfl .nil))), fun W_ hI => out_of (l := []) hI [] rfl rfl (mle_refl _) (fun hS_ => ?_)⟩
            dsimp only [packV]
            have he0 : ((opRd d0).1 : Ty.Den TOp) = (false, [], []) := by first | rfl | (exact fin0_opRead_ok)
            refine ⟨[Value.bool false, str ([]), str ([])], ?_, ?_⟩
            rotate_left
            · rw [he0]; exact (Ow.of (m := mnil) rfl (mk_Op (m := _) false [] [] bdm bdm))
            all_goals (first | rfl | (exact fin0_opRead_ok))
          · -- FFFTF
            refine VC.skip ?_
            refine outN ?_
            refine VC.reg ?_
            refine VO.mv ?_
            refine VO.mv ?_
            refine VO.mv ?_
            refine VO.y rfl (.add rfl rfl rfl ⟨bd, bd⟩) ?_
            refine VO.y rfl (.fa rfl tst64 rfl) ?_
            refine VO.store (k := 1) (c' := [Value.bool (decide (((x4.toNat : Nat) : Int) = 1)), str ((tRd (d0.drop 1) 16).1), str ((tRd (d0.drop ((1 + ((tRd (d0.drop 1) 16).2.1)).toNat)) 32).1)]) 108 rfl rfl (.inr ⟨tk9, rfl⟩) rfl rfl rfl rfl rfl ?_
            refine VO.as ?_
            refine VO.k15 0 2 3 4 5 6 7 8 9 10 11 20 35 42 52 ?_
            refine outN ?_
            refine VC.seq ?_
            refine VC.rs ?_
            refine VO.y rfl (.ldA 108 rfl tk64 rfl (cellsAt_one rfl rfl)) ?_
            refine VO.callN 118 rfl fnOk57 rfl (fun W hW => opCheck_ok W (mk_Op (m := wm W) (decide (((x4.toNat : Nat) : Int) = 1)) ((tRd (d0.drop 1) 16).1) ((tRd (d0.drop ((1 + ((tRd (d0.drop 1) 16).2.1)).toNat)) 32).1) bdm bdm)) (fun v18 m18 hv18 => ?_)
            try dsimp only at hv18
            subst hv18
            refine VO.y rfl (.neq rfl rfl) ?_
            refine VO.k16 0 2 3 4 5 6 7 8 9 10 11 20 35 42 52 61 ?_
            refine VC.cond rfl (fun hc19 => ?_) (fun hc19 => ?_)
            · -- FFFTFT
              refine VC.rs ?_
              refine VO.y rfl (.bst (cs := [Value.bool false, str ([]), str ([])]) rfl tst64 tz64 rfl) ?_
              refine VO.store (k := 3) (c' := [Value.bool false, str ([]), str ([])]) 102 rfl rfl (.inl tk64) rfl rfl rfl rfl rfl ?_
              refine VO.as ?_
              refine VO.as ?_
              refine VO.kp [108, 102, 0] [(108, mone g7 (.cells [Value.bool (decide (((x4.toNat : Nat) : Int) = 1)), str ((tRd (d0.drop 1) 16).1), str ((tRd (d0.drop ((1 + ((tRd (d0.drop 1) 16).2.1)).toNat)) 32).1)].toArray 64 (0, 0))), (102, mone g1 (.cells [Value.bool false, str ([]), str ([])].toArray 64 (0, 0))), (0, wm W)] ?_
              refine VO.k16 0 2 3 4 5 6 7 8 9 10 11 20 35 42 52 61 ?_
              refine VC.ret ?_
              refine outR ?_
              refine ⟨_, _, res_run (rs := [.cell 2 64, .tmp 3, .tmp 4]) rfl (.agg 102 rfl tk64 rfl ⟨_, _, _, mone_self _ _, Nat.le_of_ble_eq_true rfl, rfl⟩ (.tmp rfl (.tmp rfl .nil))), fun W_ hI => out_of (l := []) hI [] rfl rfl (mle_refl _) (fun hS_ => ?_)⟩
              dsimp only [packV]
              have he0 : ((opRd d0).1 : Ty.Den TOp) = (false, [], []) := by first | rfl | (exact fin0_opRead_ok)
              refine ⟨[Value.bool false, str ([]), str ([])], ?_, ?_⟩
              rotate_left
              · rw [he0]; exact (Ow.of (m := mnil) rfl (mk_Op (m := _) false [] [] bdm bdm))
              all_goals (first | rfl | (exact fin0_opRead_ok))
            · -- FFFTFF
              refine VC.skip ?_
              refine outN ?_
              refine VC.rs ?_
              refine VO.y rfl (.ldA 108 rfl tk64 rfl (cellsAt_one rfl rfl)) ?_
              refine VO.mv ?_
              refine VO.store (k := 3) (c' := [Value.bool (decide (((x4.toNat : Nat) : Int) = 1)), str ((tRd (d0.drop 1) 16).1), str ((tRd (d0.drop ((1 + ((tRd (d0.drop 1) 16).2.1)).toNat)) 32).1)]) 102 rfl rfl (.inl tk64) rfl rfl rfl rfl rfl ?_
              refine VO.as ?_
              refine VO.as ?_
              refine VO.kp [108, 102, 0] [(108, mone g7 (.cells [Value.bool (decide (((x4.toNat : Nat) : Int) = 1)), str ((tRd (d0.drop 1) 16).1), str ((tRd (d0.drop ((1 + ((tRd (d0.drop 1) 16).2.1)).toNat)) 32).1)].toArray 64 (0, 0))), (102, mone g1 (.cells [Value.bool (decide (((x4.toNat : Nat) : Int) = 1)), str ((tRd (d0.drop 1) 16).1), str ((tRd (d0.drop ((1 + ((tRd (d0.drop 1) 16).2.1)).toNat)) 32).1)].toArray 64 (0, 0))), (0, wm W)] ?_
              refine VO.k16 0 2 3 4 5 6 7 8 9 10 11 20 35 42 52 61 ?_
              refine VC.ret ?_
              refine ⟨_, _, res_run (rs := [.cell 2 64, .tmp 3, .tmp 4]) rfl (.agg 102 rfl tk64 rfl ⟨_, _, _, mone_self _ _, Nat.le_of_ble_eq_true rfl, rfl⟩ (.tmp rfl (.tmp rfl .nil))), fun W_ hI => out_of (l := []) hI [] rfl rfl (mle_refl _) (fun hS_ => ?_)⟩
              dsimp only [packV]
              have he0 : ((opRd d0).1 : Ty.Den TOp) = (decide (((x4.toNat : Nat) : Int) = 1), (tRd (d0.drop 1) 16).1, (tRd (d0.drop ((1 + ((tRd (d0.drop 1) 16).2.1)).toNat)) 32).1) := by first | rfl | (exact fin0_opRead_ok)
              refine ⟨[Value.bool (decide (((x4.toNat : Nat) : Int) = 1)), str ((tRd (d0.drop 1) 16).1), str ((tRd (d0.drop ((1 + ((tRd (d0.drop 1) 16).2.1)).toNat)) 32).1)], ?_, ?_⟩
              rotate_left
              · rw [he0]; exact (Ow.of (m := mnil) rfl (mk_Op (m := _) (decide (((x4.toNat : Nat) : Int) = 1)) ((tRd (d0.drop 1) 16).1) ((tRd (d0.drop ((1 + ((tRd (d0.drop 1) 16).2.1)).toNat)) 32).1) bdm bdm))
              all_goals (first | rfl | (exact fin0_opRead_ok))
        · -- FFFF
          refine VC.skip ?_
          refine outN ?_
          refine VC.seq ?_
          refine VC.rs ?_
          refine VO.y rfl (.ldA 108 rfl tk64 rfl (cellsAt_one rfl rfl)) ?_
          refine VO.callN 120 rfl fnOk57 rfl (fun W hW => opCheck_ok W (mk_Op (m := wm W) (decide (((x4.toNat : Nat) : Int) = 1)) ((tRd (d0.drop 1) 16).1) [] bdm bdm)) (fun v20 m20 hv20 => ?_)
          try dsimp only at hv20
          subst hv20
          refine VO.y rfl (.neq rfl rfl) ?_
          refine VO.k12 0 2 3 4 5 6 7 8 20 35 42 61 ?_
          refine VC.cond rfl (fun hc21 => ?_) (fun hc21 => ?_)
          · -- FFFFT
            refine VC.rs ?_
            refine VO.y rfl (.bst (cs := [Value.bool false, str ([]), str ([])]) rfl tst64 tz64 rfl) ?_
            refine VO.store (k := 3) (c' := [Value.bool false, str ([]), str ([])]) 102 rfl rfl (.inl tk64) rfl rfl rfl rfl rfl ?_
            refine VO.as ?_
            refine VO.as ?_
            refine VO.kp [108, 102, 0] [(108, mone g7 (.cells [Value.bool (decide (((x4.toNat : Nat) : Int) = 1)), str ((tRd (d0.drop 1) 16).1), str ([])].toArray 64 (0, 0))), (102, mone g1 (.cells [Value.bool false, str ([]), str ([])].toArray 64 (0, 0))), (0, wm W)] ?_
            refine VO.k12 0 2 3 4 5 6 7 8 20 35 42 61 ?_
            refine VC.ret ?_
            refine outR ?_
            refine ⟨_, _, res_run (rs := [.cell 2 64, .tmp 3, .tmp 4]) rfl (.agg 102 rfl tk64 rfl ⟨_, _, _, mone_self _ _, Nat.le_of_ble_eq_true rfl, rfl⟩ (.tmp rfl (.tmp rfl .nil))), fun W_ hI => out_of (l := []) hI [] rfl rfl (mle_refl _) (fun hS_ => ?_)⟩
            dsimp only [packV]
            have he0 : ((opRd d0).1 : Ty.Den TOp) = (false, [], []) := by first | rfl | (exact fin0_opRead_ok)
            refine ⟨[Value.bool false, str ([]), str ([])], ?_, ?_⟩
            rotate_left
            · rw [he0]; exact (Ow.of (m := mnil) rfl (mk_Op (m := _) false [] [] bdm bdm))
            all_goals (first | rfl | (exact fin0_opRead_ok))
          · -- FFFFF
            refine VC.skip ?_
            refine outN ?_
            refine VC.rs ?_
            refine VO.y rfl (.ldA 108 rfl tk64 rfl (cellsAt_one rfl rfl)) ?_
            refine VO.mv ?_
            refine VO.store (k := 3) (c' := [Value.bool (decide (((x4.toNat : Nat) : Int) = 1)), str ((tRd (d0.drop 1) 16).1), str ([])]) 102 rfl rfl (.inl tk64) rfl rfl rfl rfl rfl ?_
            refine VO.as ?_
            refine VO.as ?_
            refine VO.kp [108, 102, 0] [(108, mone g7 (.cells [Value.bool (decide (((x4.toNat : Nat) : Int) = 1)), str ((tRd (d0.drop 1) 16).1), str ([])].toArray 64 (0, 0))), (102, mone g1 (.cells [Value.bool (decide (((x4.toNat : Nat) : Int) = 1)), str ((tRd (d0.drop 1) 16).1), str ([])].toArray 64 (0, 0))), (0, wm W)] ?_
            refine VO.k12 0 2 3 4 5 6 7 8 20 35 42 61 ?_
            refine VC.ret ?_
            refine ⟨_, _, res_run (rs := [.cell 2 64, .tmp 3, .tmp 4]) rfl (.agg 102 rfl tk64 rfl ⟨_, _, _, mone_self _ _, Nat.le_of_ble_eq_true rfl, rfl⟩ (.tmp rfl (.tmp rfl .nil))), fun W_ hI => out_of (l := []) hI [] rfl rfl (mle_refl _) (fun hS_ => ?_)⟩
            dsimp only [packV]
            have he0 : ((opRd d0).1 : Ty.Den TOp) = (decide (((x4.toNat : Nat) : Int) = 1), (tRd (d0.drop 1) 16).1, []) := by first | rfl | (exact fin0_opRead_ok)
            refine ⟨[Value.bool (decide (((x4.toNat : Nat) : Int) = 1)), str ((tRd (d0.drop 1) 16).1), str ([])], ?_, ?_⟩
            rotate_left
            · rw [he0]; exact (Ow.of (m := mnil) rfl (mk_Op (m := _) (decide (((x4.toNat : Nat) : Int) = 1)) ((tRd (d0.drop 1) 16).1) [] bdm bdm))
            all_goals (first | rfl | (exact fin0_opRead_ok))
theorem fnOk124 : fnOk Tryz.prog 124 = true := by kernel_rfl
theorem fnOk135 : fnOk Tryz.prog 135 = true := by kernel_rfl
theorem tar161 : tar Tryz.prog 161 = some (3, 1) := by kernel_rfl
theorem tia161 : tia Tryz.prog 161 = some (3, 3, 1) := by kernel_rfl
theorem tk92 : tk Tryz.prog 92 = some (some 3) := by kernel_rfl
theorem tst92 : tst Tryz.prog 92 = some [(0, 1), (1, 1), (2, 1)] := by kernel_rfl
theorem tz161 : tz Tryz.prog 161 = some [.int .i64 0, .int .i64 0, .int .i64 0] := by kernel_rfl
theorem tz92 : tz Tryz.prog 92 = some [.int .i64 0, .int .i64 0, .slice none 0 0] := by kernel_rfl
theorem fin0_runCheck_ok_ {P : Prop} (h : P := by congr 1; first | exact (runCheck_long (by omega)).symm | exact (runCheck_arg (by omega) (by omega)).symm | exact (runCheck_ops (by omega) (ups_bad1 ‹d0.2.2[k]? = some _› (by assumption))).symm | exact (runCheck_ops (by omega) (ups_bad2 ‹d0.2.2[k]? = some _› (by omega) (by assumption) (by assumption))).symm | exact (runCheck_good (by omega) (by omega) (by have h_ := hu; rw [List.take_of_length_le (by omega)] at h_; exact h_)).symm) : P := h
theorem runCheck_ok_ (W : World) {v0 : List Value} {d0 : DRun} (h0 : Rd TRun (wm W) v0 d0) : CallR Tryz.prog 124 [.agg v0.toArray] W (mnil) (fun v m' => v = .int .i64 (runCheck d0)) := by
  obtain ⟨p0_A2, p0_c2, rfl, p0_0, p0_1, p0_2⟩ := open_Run (x0 := d0.1) (x1 := d0.2.1) (x2 := d0.2.2) h0
  simp only [inK] at p0_0
  simp only [inK] at p0_1
  have p0_r2 := Rd.room p0_2
  refine CallR.ofA (n := 52) Tryz.func124 rfl rfl rfl ?_
  refine VC.rs ?_
  refine VO.box (cs := [Value.int .i64 (d0.1), Value.int .i64 (d0.2.1), Value.slice p0_A2 (d0.2.2.length) (p0_c2)]) 102 rfl rfl rfl (fun g1 => ?_)
  refine VO.as ?_
  refine VO.k3 0 1 2 ?_
  refine VC.seq ?_
  refine VC.rs ?_
  refine VO.y rfl (.fa rfl tst92 rfl) ?_
  refine VO.y rfl (.ld1 102 rfl tk34 rfl (cellsAt_one rfl rfl)) ?_
  refine VO.y rfl (.lenS rfl tsl34) ?_
  refine VO.y rfl (.gtr rfl rfl) ?_
  refine VO.k4 0 1 2 8 ?_
  refine VC.cond rfl (fun hc3 => ?_) (fun hc3 => ?_)
  · -- T
    refine VC.rs ?_
    refine VO.as ?_
    refine VO.kp [102, 0] [(102, mone g1 (.cells [Value.int .i64 (d0.1), Value.int .i64 (d0.2.1), Value.slice p0_A2 (d0.2.2.length) (p0_c2)].toArray 92 (0, 0))), (0, wm W)] ?_
    refine VO.k4 0 1 2 8 ?_
    refine VC.ret ?_
    refine outR ?_
    refine ⟨_, _, res_run (rs := [.tmp 2]) rfl (.tmp rfl .nil), fun W_ hI => out_of (l := []) hI [] rfl rfl (mle_refl _) (fun hS_ => ?_)⟩
    dsimp only [packV]
    all_goals (first | rfl | (exact fin0_runCheck_ok_))
  · -- F
    refine VC.skip ?_
    refine outN ?_
    refine VC.seq ?_
    refine VC.rs ?_
    refine VO.y rfl (.fa rfl tst92 rfl) ?_
    refine VO.y rfl (.ld1 102 rfl tk3 rfl (cellsAt_one rfl rfl)) ?_
    refine VO.y rfl (.lss rfl rfl) ?_
    refine VO.mv ?_
    refine VO.dec (t := 12) rfl (fun hc4 => ?_) (fun hc4 => ?_)
    · -- FT
      refine VO.gN ?_
      refine VO.gN ?_
      refine VO.gN ?_
      refine VO.gN ?_
      refine VO.gN ?_
      refine VO.y rfl (.pT rfl rfl) ?_
      refine VO.mv ?_
      refine VO.gN ?_
      refine VO.gN ?_
      refine VO.gN ?_
      refine VO.y rfl (.pT rfl rfl) ?_
      refine VO.kp [102, 0] [(102, mone g1 (.cells [Value.int .i64 (d0.1), Value.int .i64 (d0.2.1), Value.slice p0_A2 (d0.2.2.length) (p0_c2)].toArray 92 (0, 0))), (0, wm W)] ?_
      refine VO.k5 0 1 2 8 23 ?_
      refine VC.condT rfl ?_
      refine VC.rs ?_
      refine VO.as ?_
      refine VO.k5 0 1 2 8 23 ?_
      refine VC.ret ?_
      refine outR ?_
      refine ⟨_, _, res_run (rs := [.tmp 2]) rfl (.tmp rfl .nil), fun W_ hI => out_of (l := []) hI [] rfl rfl (mle_refl _) (fun hS_ => ?_)⟩
      dsimp only [packV]
      all_goals (first | rfl | (exact fin0_runCheck_ok_))
    · -- FF
      refine VO.gy rfl ⟨_, rfl, rfl⟩ (.fa rfl tst92 rfl) ?_
      refine VO.gy rfl ⟨_, rfl, rfl⟩ (.ld1 102 rfl tk3 rfl (cellsAt_one rfl rfl)) ?_
      refine VO.gy rfl ⟨_, rfl, rfl⟩ (.fa rfl tst92 rfl) ?_
      refine VO.gy rfl ⟨_, rfl, rfl⟩ (.ld1 102 rfl tk3 rfl (cellsAt_one rfl rfl)) ?_
      refine VO.gy rfl ⟨_, rfl, rfl⟩ (.lss rfl rfl) ?_
      refine VO.y rfl (.pF rfl rfl) ?_
      refine VO.mv ?_
      refine VO.dec (t := 19) rfl (fun hc5 => ?_) (fun hc5 => ?_)
      · -- FFT
        refine VO.gN ?_
        refine VO.gN ?_
        refine VO.gN ?_
        refine VO.y rfl (.pT rfl rfl) ?_
        refine VO.kp [102, 0] [(102, mone g1 (.cells [Value.int .i64 (d0.1), Value.int .i64 (d0.2.1), Value.slice p0_A2 (d0.2.2.length) (p0_c2)].toArray 92 (0, 0))), (0, wm W)] ?_
        refine VO.k5 0 1 2 8 23 ?_
        refine VC.condT rfl ?_
        refine VC.rs ?_
        refine VO.as ?_
        refine VO.k5 0 1 2 8 23 ?_
        refine VC.ret ?_
        refine outR ?_
        refine ⟨_, _, res_run (rs := [.tmp 2]) rfl (.tmp rfl .nil), fun W_ hI => out_of (l := []) hI [] rfl rfl (mle_refl _) (fun hS_ => ?_)⟩
        dsimp only [packV]
        all_goals (first | rfl | (exact fin0_runCheck_ok_))
      · -- FFF
        refine VO.gy rfl ⟨_, rfl, rfl⟩ (.fa rfl tst92 rfl) ?_
        refine VO.gy rfl ⟨_, rfl, rfl⟩ (.ld1 102 rfl tk3 rfl (cellsAt_one rfl rfl)) ?_
        refine VO.gy rfl ⟨_, rfl, rfl⟩ (.gtr rfl rfl) ?_
        refine VO.y rfl (.pF rfl rfl) ?_
        refine VO.kp [102, 0] [(102, mone g1 (.cells [Value.int .i64 (d0.1), Value.int .i64 (d0.2.1), Value.slice p0_A2 (d0.2.2.length) (p0_c2)].toArray 92 (0, 0))), (0, wm W)] ?_
        refine VO.k5 0 1 2 8 23 ?_
        refine VC.cond rfl (fun hc6 => ?_) (fun hc6 => ?_)
        · -- FFFT
          refine VC.rs ?_
          refine VO.as ?_
          refine VO.k5 0 1 2 8 23 ?_
          refine VC.ret ?_
          refine outR ?_
          refine ⟨_, _, res_run (rs := [.tmp 2]) rfl (.tmp rfl .nil), fun W_ hI => out_of (l := []) hI [] rfl rfl (mle_refl _) (fun hS_ => ?_)⟩
          dsimp only [packV]
          all_goals (first | rfl | (exact fin0_runCheck_ok_))
        · -- FFFF
          refine VC.skip ?_
          refine outN ?_
          refine VC.seq ?_
          refine VC.rs ?_
          refine VO.y rfl (.fa rfl tst92 rfl) ?_
          refine VO.y rfl (.ld1 102 rfl tk34 rfl (cellsAt_one rfl rfl)) ?_
          refine VO.y rfl (.lenS rfl tsl34) ?_
          refine VO.mv ?_
          refine VO.k8 0 1 2 8 23 25 26 27 ?_
          refine VC.block ?_
          refine VC.loop (G := Nat) (fun k => [(27, Value.int .i64 (((k : Nat) : Int))), (0, Value.agg [Value.int .i64 (d0.1), Value.int .i64 (d0.2.1), Value.slice p0_A2 (d0.2.2.length) (p0_c2)].toArray), (1, Value.pointer (some ⟨g1, 0, none⟩)), (8, Value.bool (decide (1024 < ((d0.2.2.length : Nat) : Int)))), (23, Value.bool (decide (1048576 < d0.2.1))), (25, Value.slice p0_A2 (d0.2.2.length) (p0_c2)), (26, Value.int .i64 (((d0.2.2.length : Nat) : Int)))]) (fun k => [(102, mone g1 (.cells [Value.int .i64 (d0.1), Value.int .i64 (d0.2.1), Value.slice p0_A2 (d0.2.2.length) (p0_c2)].toArray 92 (0, 0))), (0, wm W)]) (fun k => (k ≤ d0.2.2.length) ∧ (opsUp (d0.2.2.take k))) (fun k => d0.2.2.length - k) 0 (⟨by omega, by exact ups_nil⟩) ⟨⟨rfl, rfl, rfl, rfl, rfl, rfl, rfl, trivial⟩, fun _ h => h.sub [102, 0]⟩ ?_
          rintro k ⟨hk, hu⟩
          refine VC.rs ?_
          refine VO.y rfl (.lss rfl rfl) ?_
          refine VO.k8 0 1 8 23 25 26 27 28 ?_
          refine VC.seq ?_
          refine VC.cond rfl (fun hc7 => ?_) (fun hc7 => ?_)
          · -- FFFFT
            refine VC.skip ?_
            refine outN ?_
            refine VC.seq ?_
            refine VC.block ?_
            refine VC.rs ?_
            refine VO.mv ?_
            obtain ⟨x8, hx8⟩ : ∃ z_, (d0.2.2)[k]? = some z_ := ⟨_, List.getElem?_eq_getElem bd⟩
            obtain ⟨gg8, oo8, ec8, ea8, hce8, hre8⟩ := p0_2.elem hx8
            cases ea8
            obtain ⟨rfl, q8_1, q8_2⟩ := open_Op (x0 := x8.1) (x1 := x8.2.1) (x2 := x8.2.2) hre8
            simp only [maxLen] at q8_1
            simp only [maxLen] at q8_2
            refine VO.y rfl (.ixI k rfl rfl tsl34 rfl bd) ?_
            refine VO.y rfl (.ldA 0 rfl tk64 rfl hce8) ?_
            refine VO.alloc 110 rfl tz64 (fun g9 => ?_)
            refine VO.as ?_
            refine VO.store (k := 3) (c' := [Value.bool x8.1, str (x8.2.1), str (x8.2.2)]) 110 rfl rfl (.inl tk64) rfl rfl rfl rfl rfl ?_
            refine VO.kp [110, 102, 0] [(110, mone g9 (.cells [Value.bool x8.1, str (x8.2.1), str (x8.2.2)].toArray 64 (0, 0))), (102, mone g1 (.cells [Value.int .i64 (d0.1), Value.int .i64 (d0.2.1), Value.slice (some ⟨gg8, oo8, none⟩) (d0.2.2.length) (p0_c2)].toArray 92 (0, 0))), (0, wm W)] ?_
            refine VO.k10 0 1 3 4 8 23 25 26 27 28 ?_
            refine VC.seq ?_
            refine VC.regD _ 16 [(0, true), (1, false), (2, true), (3, true), (4, true), (5, true), (6, true), (7, true), (8, true), (9, true), (10, true), (11, true), (12, true), (13, true), (14, true), (15, true)] follows (by kernel_rfl) (fun _ h => h.sub [110, 102, 0]) ?_
            refine VD.y rfl rfl (.inl rfl) (.ldA 110 rfl tk64 rfl (cellsAt_one rfl rfl)) ?_
            refine VD.callN 111 rfl rfl (.inl rfl) fnOk57 rfl (fun _ h => h.sub [110, 102, 0]) (fun W hW => opCheck_ok W (Rd.mono hre8 (hW.at (i := 0) rfl))) (fun v11 m11 hv11 => ?_)
            subst hv11
            refine VD.y rfl rfl (.inl rfl) (.neq rfl rfl) ?_
            refine VD.y rfl rfl (.inl rfl) (.mv rfl) ?_
            refine VD.dec (s := 35) rfl (fun hc12 => ?_) (fun hc12 => ?_)
            · -- FFFFTT
              refine VD.gn rfl rfl (.inl ⟨_, rfl, rfl⟩) ?_
              refine VD.gn rfl rfl (.inl ⟨_, rfl, rfl⟩) ?_
              refine VD.gn rfl rfl (.inl ⟨_, rfl, rfl⟩) ?_
              refine VD.gn rfl rfl (.inr ⟨_, rfl, rfl⟩) ?_
              refine VD.gn rfl rfl (.inr ⟨_, rfl, rfl⟩) ?_
              refine VD.gn rfl rfl (.inr ⟨_, rfl, rfl⟩) ?_
              refine VD.gn rfl rfl (.inr ⟨_, rfl, rfl⟩) ?_
              refine VD.gn rfl rfl (.inr ⟨_, rfl, rfl⟩) ?_
              refine VD.gn rfl rfl (.inr ⟨_, rfl, rfl⟩) ?_
              refine VD.gn rfl rfl (.inr ⟨_, rfl, rfl⟩) ?_
              refine VD.gn rfl rfl (.inr ⟨_, rfl, rfl⟩) ?_
              refine VD.gn rfl rfl (.inr ⟨_, rfl, rfl⟩) ?_
              refine VD.nil rfl ?_ rfl
              refine VO.gn rfl (.inr ⟨_, rfl, rfl⟩) ?_
              refine VO.gN ?_
              refine VO.y rfl (.pT rfl rfl) ?_
              refine VO.k11 0 1 3 4 8 23 25 26 27 28 50 ?_
              refine outN ?_
              refine VC.condT rfl ?_
              refine VC.rs ?_
              refine VO.as ?_
              refine VO.k12 0 1 2 3 4 8 23 25 26 27 28 50 ?_
              refine VC.ret ?_
              refine outBR ?_
              refine outR ?_
              refine outR ?_
              refine outBR ?_
              refine outR ?_
              refine ⟨_, _, res_run (rs := [.tmp 2]) rfl (.tmp rfl .nil), fun W_ hI => out_of (l := []) hI [] rfl rfl (mle_refl _) (fun hS_ => ?_)⟩
              dsimp only [packV]
              all_goals (first | rfl | (exact fin0_runCheck_ok_))
            · -- FFFFTF
              refine VD.y rfl rfl (.inr ⟨_, _, rfl, _, rfl, rfl⟩) (.mv rfl) ?_
              refine VD.y rfl rfl (.inr ⟨_, _, rfl, _, rfl, rfl⟩) (.gtr rfl rfl) ?_
              refine VD.y rfl rfl (.inr ⟨_, _, rfl, _, rfl, rfl⟩) (.mv rfl) ?_
              refine VD.dec (s := 38) rfl (fun hc13 => ?_) (fun hc13 => ?_)
              · -- FFFFTFT
                refine VD.y rfl rfl (.inr ⟨_, _, rfl, _, rfl, rfl⟩) (.fa rfl tst64 rfl) ?_
                refine VD.y rfl rfl (.inr ⟨_, _, rfl, _, rfl, rfl⟩) (.ld1 110 rfl tk9 rfl (cellsAt_one rfl rfl)) ?_
                refine VD.y rfl rfl (.inr ⟨_, _, rfl, _, rfl, rfl⟩) (.fa rfl tst92 rfl) ?_
                refine VD.y rfl rfl (.inr ⟨_, _, rfl, _, rfl, rfl⟩) (.ld1 102 rfl tk34 rfl (cellsAt_one rfl rfl)) ?_
                refine VD.y rfl rfl (.inr ⟨_, _, rfl, _, rfl, rfl⟩) (.mv rfl) ?_
                refine VD.y rfl rfl (.inr ⟨_, _, rfl, _, rfl, rfl⟩) (.sub rfl rfl rfl ⟨bd, bd⟩) ?_
                obtain ⟨x14, hx14⟩ : ∃ z_, (d0.2.2)[(((k : Nat) : Int) - 1).toNat]? = some z_ := ⟨_, List.getElem?_eq_getElem bd⟩
                obtain ⟨gg14, oo14, ec14, ea14, hce14, hre14⟩ := p0_2.elem hx14
                cases ea14
                obtain ⟨rfl, q14_1, q14_2⟩ := open_Op (x0 := x14.1) (x1 := x14.2.1) (x2 := x14.2.2) hre14
                simp only [maxLen] at q14_1
                simp only [maxLen] at q14_2
                refine VD.y rfl rfl (.inr ⟨_, _, rfl, _, rfl, rfl⟩) (.ixI ((((k : Nat) : Int) - 1).toNat) rfl rfl tsl34 bd bd) ?_
                refine VD.y rfl rfl (.inr ⟨_, _, rfl, _, rfl, rfl⟩) (.fa rfl tst64 rfl) ?_
                refine VD.y rfl rfl (.inr ⟨_, _, rfl, _, rfl, rfl⟩) (.ld1 0 rfl tk9 rfl (hce14.at1 (j := 1) rfl)) ?_
                refine VD.nil rfl ?_ rfl
                refine VO.gy rfl ⟨_, rfl, rfl⟩ (.sleq rfl rfl) ?_
                refine VO.gy rfl ⟨_, rfl, rfl⟩ (.pT rfl rfl) ?_
                refine VO.y rfl (.pF rfl rfl) ?_
                refine VO.k11 0 1 3 4 8 23 25 26 27 28 50 ?_
                refine outN ?_
                refine VC.cond rfl (fun hc15 => ?_) (fun hc15 => ?_)
                · -- FFFFTFTT
                  refine VC.rs ?_
                  refine VO.as ?_
                  refine VO.k12 0 1 2 3 4 8 23 25 26 27 28 50 ?_
                  refine VC.ret ?_
                  refine outBR ?_
                  refine outR ?_
                  refine outR ?_
                  refine outBR ?_
                  refine outR ?_
                  refine ⟨_, _, res_run (rs := [.tmp 2]) rfl (.tmp rfl .nil), fun W_ hI => out_of (l := []) hI [] rfl rfl (mle_refl _) (fun hS_ => ?_)⟩
                  dsimp only [packV]
                  all_goals (first | rfl | (exact fin0_runCheck_ok_))
                · -- FFFFTFTF
                  refine VC.skip ?_
                  refine outBN ?_
                  refine outN ?_
                  refine VC.reg ?_
                  refine VO.y rfl (.add (c := ((k + 1 : Nat) : Int)) rfl rfl (by omega) ⟨bd, bd⟩) ?_
                  refine VO.mv ?_
                  refine VO.k11 0 1 3 4 8 23 25 26 27 28 50 ?_
                  exact outN ⟨k + 1, ⟨by omega, by exact ups_next hu ‹d0.2.2[k]? = some _› (by assumption) (by first | exact .inl (by omega) | exact .inr ⟨_, by assumption, by assumption⟩)⟩, bd, ⟨⟨rfl, rfl, rfl, rfl, rfl, rfl, rfl, trivial⟩, fun _ h => Inv.sub h [102, 0]⟩⟩
              · -- FFFFTFF
                refine VD.gn rfl rfl (.inl ⟨_, rfl, rfl⟩) ?_
                refine VD.gn rfl rfl (.inl ⟨_, rfl, rfl⟩) ?_
                refine VD.gn rfl rfl (.inl ⟨_, rfl, rfl⟩) ?_
                refine VD.gn rfl rfl (.inl ⟨_, rfl, rfl⟩) ?_
                refine VD.gn rfl rfl (.inl ⟨_, rfl, rfl⟩) ?_
                refine VD.gn rfl rfl (.inl ⟨_, rfl, rfl⟩) ?_
                refine VD.gn rfl rfl (.inl ⟨_, rfl, rfl⟩) ?_
                refine VD.gn rfl rfl (.inl ⟨_, rfl, rfl⟩) ?_
                refine VD.gn rfl rfl (.inl ⟨_, rfl, rfl⟩) ?_
                refine VD.nil rfl ?_ rfl
                refine VO.gN ?_
                refine VO.gy rfl ⟨_, rfl, rfl⟩ (.pF rfl rfl) ?_
                refine VO.y rfl (.pF rfl rfl) ?_
                refine VO.k11 0 1 3 4 8 23 25 26 27 28 50 ?_
                refine outN ?_
                refine VC.condF rfl ?_
                refine VC.skip ?_
                refine outBN ?_
                refine outN ?_
                refine VC.reg ?_
                refine VO.y rfl (.add (c := ((k + 1 : Nat) : Int)) rfl rfl (by omega) ⟨bd, bd⟩) ?_
                refine VO.mv ?_
                refine VO.k11 0 1 3 4 8 23 25 26 27 28 50 ?_
                exact outN ⟨k + 1, ⟨by omega, by exact ups_next hu ‹d0.2.2[k]? = some _› (by assumption) (by first | exact .inl (by omega) | exact .inr ⟨_, by assumption, by assumption⟩)⟩, bd, ⟨⟨rfl, rfl, rfl, rfl, rfl, rfl, rfl, trivial⟩, fun _ h => Inv.sub h [102, 0]⟩⟩
          · -- FFFFF
            refine VC.exit ?_
            refine outE ?_
            refine outE ?_
            refine outBB ?_
            refine outN ?_
            refine VC.rs ?_
            refine VO.as ?_
            refine VO.kp [102, 0] [(102, mone g1 (.cells [Value.int .i64 (d0.1), Value.int .i64 (d0.2.1), Value.slice p0_A2 (d0.2.2.length) (p0_c2)].toArray 92 (0, 0))), (0, wm W)] ?_
            refine VO.k9 0 1 2 8 23 25 26 27 28 ?_
            refine VC.ret ?_
            refine ⟨_, _, res_run (rs := [.tmp 2]) rfl (.tmp rfl .nil), fun W_ hI => out_of (l := []) hI [] rfl rfl (mle_refl _) (fun hS_ => ?_)⟩
            dsimp only [packV]
            all_goals (first | rfl | (exact fin0_runCheck_ok_))
theorem fin0_runDecode_ok {P : Prop} (h : P := by first | (rw [runDec_1 (by assumption)] <;> first | rfl | done) | (rw [runDec_2 (by assumption)] <;> first | rfl | done) | (rw [runDec_3 (by assumption)] <;> first | rfl | done) | (rw [runDec_op (by assumption) (by assumption) (by assumption) hl (by omega) (by assumption)] <;> first | rfl | done) | (rw [runDec_rest (by assumption) (by assumption) (by assumption) hl (by omega) (by omega)] <;> first | rfl | done) | (rw [runDec_chk (by assumption) (by assumption) (by assumption) hl (by omega) (by omega) (by assumption)] <;> first | rfl | done) | (rw [runDec_good (by assumption) (by assumption) (by assumption) hl (by omega) (by omega) (by assumption)] <;> first | rfl | done)) : P := h
theorem runDecode_ok (W : World) {v0 : Value} {d0 : List UInt8} (h0 : Rd (.sl .byte) (wm W) [v0] d0) : CallR Tryz.prog 101 [v0] W (mnil) (fun v m' => ∃ (s0 : List Value), v = .tuple #[.agg s0.toArray, .int .i64 ((runDecode d0).2)] ∧ Ow TRun m' s0 ((runDecode d0).1)) := by
  obtain ⟨A0, c0, rfl, l0, k0⟩ := h0.slice
  simp only [maxLen] at k0
  refine CallR.ofA (n := 74) Tryz.func101 rfl rfl rfl ?_
  refine VC.rs ?_
  refine VO.alloc 102 rfl tz92 (fun g1 => ?_)
  refine VO.as ?_
  refine VO.k3 0 2 3 ?_
  refine VC.rs ?_
  refine VO.alloc 104 rfl tz161 (fun g3 => ?_)
  refine VO.k4 0 2 3 4 ?_
  refine VC.seq ?_
  refine VC.rs ?_
  refine VO.y rfl (.bar (cs := [Value.int .i64 (1048576), Value.int .i64 (1048576), Value.int .i64 (1024)]) rfl tar161 tz161 rfl) ?_
  refine VO.mv ?_
  refine VO.kp [104, 102, 0] [(104, mone g3 (.cells [Value.int .i64 (0), Value.int .i64 (0), Value.int .i64 (0)].toArray 161 (0, 0))), (102, mone g1 (.cells [Value.int .i64 (0), Value.int .i64 (0), Value.slice none (0) (0)].toArray 92 (0, 0))), (0, wm W)] ?_
  refine VO.k6 0 2 3 4 14 15 ?_
  refine VC.block ?_
  refine VC.rounds 4 (VRounds.step ?_)
  refine VC.rs ?_
  refine VO.y rfl (.lss rfl rfl) ?_
  refine VO.k7 0 2 3 4 14 15 16 ?_
  refine VC.seq ?_
  refine VC.condKT rfl (decide_eq_true (by decide)) ?_
  refine VC.skip ?_
  refine outN ?_
  refine VC.seq ?_
  refine VC.block ?_
  refine VC.rs ?_
  refine VO.mv ?_
  refine VO.y rfl (.ix1V rfl rfl tia161 tk3 rfl rfl rfl) ?_
  refine VO.as ?_
  refine VO.as ?_
  refine VO.k9 0 2 3 4 5 6 14 15 16 ?_
  refine VC.rs ?_
  refine VO.mv ?_
  refine VO.mv ?_
  refine VO.callN 105 rfl fnOk134 rfl (fun W hW => vSmall_ok W (Rd.mono h0 (hW.at (i := 0) rfl)) 1048576 bdk) (fun v5 m5 hv5 => ?_)
  subst hv5
  have hfa6 := s_bounds d0 1048576 (by omega)
  refine VO.mv ?_
  refine VO.y rfl (.ext rfl rfl) ?_
  refine VO.y rfl (.ext rfl rfl) ?_
  refine VO.y rfl (.ext rfl rfl) ?_
  refine VO.as ?_
  refine VO.as ?_
  refine VO.as ?_
  refine VO.kp [104, 102, 0] [(104, mone g3 (.cells [Value.int .i64 (0), Value.int .i64 (0), Value.int .i64 (0)].toArray 161 (0, 0))), (102, mone g1 (.cells [Value.int .i64 (0), Value.int .i64 (0), Value.slice none (0) (0)].toArray 92 (0, 0))), (0, wm W)] ?_
  refine VO.k12 0 2 3 4 5 6 7 8 9 14 15 16 ?_
  refine VC.seq ?_
  refine VC.rs ?_
  refine VO.mv ?_
  refine VO.y rfl (.neq rfl rfl) ?_
  refine VO.k13 0 2 3 4 5 6 7 8 9 14 15 16 27 ?_
  refine VC.cond rfl (fun hc7 => ?_) (fun hc7 => ?_)
  · -- RT
    refine VC.rs ?_
    refine VO.y rfl (.bst (cs := [Value.int .i64 (0), Value.int .i64 (0), Value.slice none (0) (0)]) rfl tst92 tz92 rfl) ?_
    refine VO.store (k := 3) (c' := [Value.int .i64 (0), Value.int .i64 (0), Value.slice none (0) (0)]) 102 rfl rfl (.inl tk92) rfl rfl rfl rfl rfl ?_
    refine VO.as ?_
    refine VO.k13 0 2 3 4 5 6 7 8 9 14 15 16 27 ?_
    refine VC.ret ?_
    refine outR ?_
    refine outBR ?_
    refine outR ?_
    refine outR ?_
    refine outBR ?_
    refine outR ?_
    refine ⟨_, _, res_run (rs := [.cell 2 92, .tmp 3]) rfl (.agg 102 rfl tk92 rfl ⟨_, _, _, mone_self _ _, Nat.le_of_ble_eq_true rfl, rfl⟩ (.tmp rfl .nil)), fun W_ hI => out_of (l := []) hI [] rfl rfl (mle_refl _) (fun hS_ => ?_)⟩
    dsimp only [packV]
    have he0 : ((runDecode d0).1 : Ty.Den TRun) = (0, 0, []) := by first | rfl | (exact fin0_runDecode_ok)
    refine ⟨[Value.int .i64 (0), Value.int .i64 (0), Value.slice none (0) (0)], ?_, ?_⟩
    rotate_left
    · rw [he0]; exact (mkO_Run 0 0 [] (Seps.nilAt 0 hS_) bdk bdk (Ow.nil _ _))
    all_goals (first | rfl | (exact fin0_runDecode_ok))
  · -- RF
    refine VC.skip ?_
    refine outN ?_
    refine VC.inv _ (fun _ h => Inv.num h 104 2104 rfl) ?_
    refine VC.regD _ 7 [(0, true), (1, true), (2, true), (3, true), (4, true), (5, true), (6, false)] follows (by kernel_rfl) (fun _ h => h.sub [2104, 102, 0]) ?_
    refine VD.y rfl rfl (.inl rfl) (.mv rfl) ?_
    refine VD.y rfl rfl (.inl rfl) (.mv rfl) ?_
    refine VD.y rfl rfl (.inl rfl) (.mv rfl) ?_
    refine VD.y rfl rfl (.inl rfl) (.mv rfl) ?_
    obtain ⟨A8, hA8, hs8⟩ := h0.drop 1 (sN d0 1048576) rfl bd
    refine VD.y rfl rfl (.inl rfl) (.slLI (sN d0 1048576) A8 rfl rfl tsl97 rfl hA8 bd) ?_
    refine VD.y rfl rfl (.inl rfl) (.ixa (i := 0) (o := 0) rfl rfl tar161 rfl rfl rfl) ?_
    refine VD.storeH (k := 1) (c' := [Value.int .i64 (((sX d0 1048576 : Nat) : Int)), Value.int .i64 (0), Value.int .i64 (0)]) 2104 rfl rfl rfl (.inr ⟨tk3, rfl⟩) rfl rfl rfl rfl rfl (fun _ h => h.sub [102, 0]) ?_
    refine VD.nil rfl ?_ rfl
    refine VO.as ?_
    refine VO.k13 0 2 3 4 5 6 7 8 9 14 15 16 27 ?_
    refine outBN ?_
    refine outN ?_
    refine VC.reg ?_
    refine VO.y rfl (.add (c := ((1 : Nat) : Int)) rfl rfl (by omega) ⟨bd, bd⟩) ?_
    refine VO.mv ?_
    refine VO.kp [2104, 102, 0] [(2104, mone g3 (.cells [Value.int .i64 (((sX d0 1048576 : Nat) : Int)), Value.int .i64 (0), Value.int .i64 (0)].toArray 161 (0, 0))), (102, mone g1 (.cells [Value.int .i64 (0), Value.int .i64 (0), Value.slice none (0) (0)].toArray 92 (0, 0))), (0, wm W)] ?_
    refine VO.k13 0 2 3 4 5 6 7 8 9 14 15 16 27 ?_
    refine outN (VRounds.step ?_)
    refine VC.rs ?_
    refine VO.y rfl (.lss rfl rfl) ?_
    refine VO.k13 0 2 3 4 5 6 7 8 9 14 15 16 27 ?_
    refine VC.seq ?_
    refine VC.condKT rfl (decide_eq_true (by decide)) ?_
    refine VC.skip ?_
    refine outN ?_
    refine VC.seq ?_
    refine VC.block ?_
    refine VC.rs ?_
    refine VO.mv ?_
    refine VO.y rfl (.ix1V rfl rfl tia161 tk3 rfl rfl rfl) ?_
    refine VO.as ?_
    refine VO.as ?_
    refine VO.k13 0 2 3 4 5 6 7 8 9 14 15 16 27 ?_
    refine VC.rs ?_
    refine VO.mv ?_
    refine VO.mv ?_
    refine VO.callN 109 rfl fnOk134 rfl (fun W hW => vSmall_ok W (Rd.mono hs8 (hW.at (i := 0) rfl)) 1048576 bdk) (fun v9 m9 hv9 => ?_)
    subst hv9
    have hfa10 := s_bounds (d0.drop (sN d0 1048576)) 1048576 (by omega)
    refine VO.mv ?_
    refine VO.y rfl (.ext rfl rfl) ?_
    refine VO.y rfl (.ext rfl rfl) ?_
    refine VO.y rfl (.ext rfl rfl) ?_
    refine VO.as ?_
    refine VO.as ?_
    refine VO.as ?_
    refine VO.kp [2104, 102, 0] [(2104, mone g3 (.cells [Value.int .i64 (((sX d0 1048576 : Nat) : Int)), Value.int .i64 (0), Value.int .i64 (0)].toArray 161 (0, 0))), (102, mone g1 (.cells [Value.int .i64 (0), Value.int .i64 (0), Value.slice none (0) (0)].toArray 92 (0, 0))), (0, wm W)] ?_
    refine VO.k13 0 2 3 4 5 6 7 8 9 14 15 16 27 ?_
    refine VC.seq ?_
    refine VC.rs ?_
    refine VO.mv ?_
    refine VO.y rfl (.neq rfl rfl) ?_
    refine VO.k13 0 2 3 4 5 6 7 8 9 14 15 16 27 ?_
    refine VC.cond rfl (fun hc11 => ?_) (fun hc11 => ?_)
    · -- RFRT
      refine VC.rs ?_
      refine VO.y rfl (.bst (cs := [Value.int .i64 (0), Value.int .i64 (0), Value.slice none (0) (0)]) rfl tst92 tz92 rfl) ?_
      refine VO.store (k := 3) (c' := [Value.int .i64 (0), Value.int .i64 (0), Value.slice none (0) (0)]) 102 rfl rfl (.inl tk92) rfl rfl rfl rfl rfl ?_
      refine VO.as ?_
      refine VO.k13 0 2 3 4 5 6 7 8 9 14 15 16 27 ?_
      refine VC.ret ?_
      refine outR ?_
      refine outBR ?_
      refine outR ?_
      refine outR ?_
      refine outBR ?_
      refine outR ?_
      refine ⟨_, _, res_run (rs := [.cell 2 92, .tmp 3]) rfl (.agg 102 rfl tk92 rfl ⟨_, _, _, mone_self _ _, Nat.le_of_ble_eq_true rfl, rfl⟩ (.tmp rfl .nil)), fun W_ hI => out_of (l := []) hI [] rfl rfl (mle_refl _) (fun hS_ => ?_)⟩
      dsimp only [packV]
      have he0 : ((runDecode d0).1 : Ty.Den TRun) = (0, 0, []) := by first | rfl | (exact fin0_runDecode_ok)
      refine ⟨[Value.int .i64 (0), Value.int .i64 (0), Value.slice none (0) (0)], ?_, ?_⟩
      rotate_left
      · rw [he0]; exact (mkO_Run 0 0 [] (Seps.nilAt 0 hS_) bdk bdk (Ow.nil _ _))
      all_goals (first | rfl | (exact fin0_runDecode_ok))
    · -- RFRF
      refine VC.skip ?_
      refine outN ?_
      refine VC.regD _ 7 [(0, true), (1, true), (2, true), (3, true), (4, true), (5, true), (6, false)] follows (by kernel_rfl) (fun _ h => h.sub [2104, 102, 0]) ?_
      refine VD.y rfl rfl (.inl rfl) (.mv rfl) ?_
      refine VD.y rfl rfl (.inl rfl) (.mv rfl) ?_
      refine VD.y rfl rfl (.inl rfl) (.mv rfl) ?_
      refine VD.y rfl rfl (.inl rfl) (.mv rfl) ?_
      obtain ⟨A12, hA12, hs12⟩ := hs8.drop 1 (sN (d0.drop (sN d0 1048576)) 1048576) rfl bd
      replace hs12 := Rd.relen (k := (d0.length - (sN d0 1048576)) - (sN (d0.drop (sN d0 1048576)) 1048576)) hs12 (by simp only [List.length_drop, List.length_take]; try omega)
      refine VD.y rfl rfl (.inl rfl) (.slLI (sN (d0.drop (sN d0 1048576)) 1048576) A12 rfl rfl tsl97 rfl hA12 bd) ?_
      refine VD.y rfl rfl (.inl rfl) (.ixa (i := 1) (o := 1) rfl rfl tar161 rfl rfl rfl) ?_
      refine VD.storeH (k := 1) (c' := [Value.int .i64 (((sX d0 1048576 : Nat) : Int)), Value.int .i64 (((sX (d0.drop (sN d0 1048576)) 1048576 : Nat) : Int)), Value.int .i64 (0)]) 2104 rfl rfl rfl (.inr ⟨tk3, rfl⟩) rfl rfl rfl rfl rfl (fun _ h => h.sub [102, 0]) ?_
      refine VD.nil rfl ?_ rfl
      refine VO.as ?_
      refine VO.k13 0 2 3 4 5 6 7 8 9 14 15 16 27 ?_
      refine outBN ?_
      refine outN ?_
      refine VC.reg ?_
      refine VO.y rfl (.add (c := ((2 : Nat) : Int)) rfl rfl (by omega) ⟨bd, bd⟩) ?_
      refine VO.mv ?_
      refine VO.kp [2104, 102, 0] [(2104, mone g3 (.cells [Value.int .i64 (((sX d0 1048576 : Nat) : Int)), Value.int .i64 (((sX (d0.drop (sN d0 1048576)) 1048576 : Nat) : Int)), Value.int .i64 (0)].toArray 161 (0, 0))), (102, mone g1 (.cells [Value.int .i64 (0), Value.int .i64 (0), Value.slice none (0) (0)].toArray 92 (0, 0))), (0, wm W)] ?_
      refine VO.k13 0 2 3 4 5 6 7 8 9 14 15 16 27 ?_
      refine outN (VRounds.step ?_)
      refine VC.rs ?_
      refine VO.y rfl (.lss rfl rfl) ?_
      refine VO.k13 0 2 3 4 5 6 7 8 9 14 15 16 27 ?_
      refine VC.seq ?_
      refine VC.condKT rfl (decide_eq_true (by decide)) ?_
      refine VC.skip ?_
      refine outN ?_
      refine VC.seq ?_
      refine VC.block ?_
      refine VC.rs ?_
      refine VO.mv ?_
      refine VO.y rfl (.ix1V rfl rfl tia161 tk3 rfl rfl rfl) ?_
      refine VO.as ?_
      refine VO.as ?_
      refine VO.k13 0 2 3 4 5 6 7 8 9 14 15 16 27 ?_
      refine VC.rs ?_
      refine VO.mv ?_
      refine VO.mv ?_
      refine VO.callN 113 rfl fnOk134 rfl (fun W hW => vSmall_ok W (Rd.mono hs12 (hW.at (i := 0) rfl)) 1024 bdk) (fun v13 m13 hv13 => ?_)
      subst hv13
      have hfa14 := s_bounds ((d0.drop (sN d0 1048576)).drop (sN (d0.drop (sN d0 1048576)) 1048576)) 1024 (by omega)
      refine VO.mv ?_
      refine VO.y rfl (.ext rfl rfl) ?_
      refine VO.y rfl (.ext rfl rfl) ?_
      refine VO.y rfl (.ext rfl rfl) ?_
      refine VO.as ?_
      refine VO.as ?_
      refine VO.as ?_
      refine VO.kp [2104, 102, 0] [(2104, mone g3 (.cells [Value.int .i64 (((sX d0 1048576 : Nat) : Int)), Value.int .i64 (((sX (d0.drop (sN d0 1048576)) 1048576 : Nat) : Int)), Value.int .i64 (0)].toArray 161 (0, 0))), (102, mone g1 (.cells [Value.int .i64 (0), Value.int .i64 (0), Value.slice none (0) (0)].toArray 92 (0, 0))), (0, wm W)] ?_
      refine VO.k13 0 2 3 4 5 6 7 8 9 14 15 16 27 ?_
      refine VC.seq ?_
      refine VC.rs ?_
      refine VO.mv ?_
      refine VO.y rfl (.neq rfl rfl) ?_
      refine VO.k13 0 2 3 4 5 6 7 8 9 14 15 16 27 ?_
      refine VC.cond rfl (fun hc15 => ?_) (fun hc15 => ?_)
      · -- RFRFRT
        refine VC.rs ?_
        refine VO.y rfl (.bst (cs := [Value.int .i64 (0), Value.int .i64 (0), Value.slice none (0) (0)]) rfl tst92 tz92 rfl) ?_
        refine VO.store (k := 3) (c' := [Value.int .i64 (0), Value.int .i64 (0), Value.slice none (0) (0)]) 102 rfl rfl (.inl tk92) rfl rfl rfl rfl rfl ?_
        refine VO.as ?_
        refine VO.k13 0 2 3 4 5 6 7 8 9 14 15 16 27 ?_
        refine VC.ret ?_
        refine outR ?_
        refine outBR ?_
        refine outR ?_
        refine outR ?_
        refine outBR ?_
        refine outR ?_
        refine ⟨_, _, res_run (rs := [.cell 2 92, .tmp 3]) rfl (.agg 102 rfl tk92 rfl ⟨_, _, _, mone_self _ _, Nat.le_of_ble_eq_true rfl, rfl⟩ (.tmp rfl .nil)), fun W_ hI => out_of (l := []) hI [] rfl rfl (mle_refl _) (fun hS_ => ?_)⟩
        dsimp only [packV]
        have he0 : ((runDecode d0).1 : Ty.Den TRun) = (0, 0, []) := by first | rfl | (exact fin0_runDecode_ok)
        refine ⟨[Value.int .i64 (0), Value.int .i64 (0), Value.slice none (0) (0)], ?_, ?_⟩
        rotate_left
        · rw [he0]; exact (mkO_Run 0 0 [] (Seps.nilAt 0 hS_) bdk bdk (Ow.nil _ _))
        all_goals (first | rfl | (exact fin0_runDecode_ok))
      · -- RFRFRF
        refine VC.skip ?_
        refine outN ?_
        refine VC.regD _ 7 [(0, true), (1, true), (2, true), (3, true), (4, true), (5, true), (6, false)] follows (by kernel_rfl) (fun _ h => h.sub [2104, 102, 0]) ?_
        refine VD.y rfl rfl (.inl rfl) (.mv rfl) ?_
        refine VD.y rfl rfl (.inl rfl) (.mv rfl) ?_
        refine VD.y rfl rfl (.inl rfl) (.mv rfl) ?_
        refine VD.y rfl rfl (.inl rfl) (.mv rfl) ?_
        obtain ⟨A16, hA16, hs16⟩ := hs12.drop 1 (sN ((d0.drop (sN d0 1048576)).drop (sN (d0.drop (sN d0 1048576)) 1048576)) 1024) rfl bd
        replace hs16 := Rd.relen (k := ((d0.length - (sN d0 1048576)) - (sN (d0.drop (sN d0 1048576)) 1048576)) - (sN ((d0.drop (sN d0 1048576)).drop (sN (d0.drop (sN d0 1048576)) 1048576)) 1024)) hs16 (by simp only [List.length_drop, List.length_take]; try omega)
        refine VD.y rfl rfl (.inl rfl) (.slLI (sN ((d0.drop (sN d0 1048576)).drop (sN (d0.drop (sN d0 1048576)) 1048576)) 1024) A16 rfl rfl tsl97 rfl hA16 bd) ?_
        refine VD.y rfl rfl (.inl rfl) (.ixa (i := 2) (o := 2) rfl rfl tar161 rfl rfl rfl) ?_
        refine VD.storeH (k := 1) (c' := [Value.int .i64 (((sX d0 1048576 : Nat) : Int)), Value.int .i64 (((sX (d0.drop (sN d0 1048576)) 1048576 : Nat) : Int)), Value.int .i64 (((sX ((d0.drop (sN d0 1048576)).drop (sN (d0.drop (sN d0 1048576)) 1048576)) 1024 : Nat) : Int))]) 2104 rfl rfl rfl (.inr ⟨tk3, rfl⟩) rfl rfl rfl rfl rfl (fun _ h => h.sub [102, 0]) ?_
        refine VD.nil rfl ?_ rfl
        refine VO.as ?_
        refine VO.k13 0 2 3 4 5 6 7 8 9 14 15 16 27 ?_
        refine outBN ?_
        refine outN ?_
        refine VC.reg ?_
        refine VO.y rfl (.add (c := ((3 : Nat) : Int)) rfl rfl (by omega) ⟨bd, bd⟩) ?_
        refine VO.mv ?_
        refine VO.kp [2104, 102, 0] [(2104, mone g3 (.cells [Value.int .i64 (((sX d0 1048576 : Nat) : Int)), Value.int .i64 (((sX (d0.drop (sN d0 1048576)) 1048576 : Nat) : Int)), Value.int .i64 (((sX ((d0.drop (sN d0 1048576)).drop (sN (d0.drop (sN d0 1048576)) 1048576)) 1024 : Nat) : Int))].toArray 161 (0, 0))), (102, mone g1 (.cells [Value.int .i64 (0), Value.int .i64 (0), Value.slice none (0) (0)].toArray 92 (0, 0))), (0, wm W)] ?_
        refine VO.k13 0 2 3 4 5 6 7 8 9 14 15 16 27 ?_
        refine outN (VRounds.step ?_)
        refine VC.rs ?_
        refine VO.y rfl (.lss rfl rfl) ?_
        refine VO.k13 0 2 3 4 5 6 7 8 9 14 15 16 27 ?_
        refine VC.seq ?_
        refine VC.condKF rfl (decide_eq_false (by decide)) ?_
        refine VC.exit ?_
        refine outE ?_
        refine outE ?_
        refine outBB ?_
        refine outN ?_
        refine VC.rs ?_
        refine VO.y rfl (.ixa (i := 0) (o := 0) rfl rfl tar161 rfl rfl rfl) ?_
        refine VO.y rfl (.ld1 2104 rfl tk3 rfl (cellsAt_one rfl rfl)) ?_
        refine VO.y rfl (.ixa (i := 1) (o := 1) rfl rfl tar161 rfl rfl rfl) ?_
        refine VO.y rfl (.ld1 2104 rfl tk3 rfl (cellsAt_one rfl rfl)) ?_
        refine VO.y rfl (.bst (cs := [Value.int .i64 (((sX d0 1048576 : Nat) : Int)), Value.int .i64 (((sX (d0.drop (sN d0 1048576)) 1048576 : Nat) : Int)), Value.slice none (0) (0)]) rfl tst92 tz92 rfl) ?_
        refine VO.alloc 118 rfl tz92 (fun g17 => ?_)
        refine VO.store (k := 3) (c' := [Value.int .i64 (((sX d0 1048576 : Nat) : Int)), Value.int .i64 (((sX (d0.drop (sN d0 1048576)) 1048576 : Nat) : Int)), Value.slice none (0) (0)]) 118 rfl rfl (.inl tk92) rfl rfl rfl rfl rfl ?_
        refine VO.k14 0 2 3 4 5 6 7 8 9 10 14 15 16 27 ?_
        refine VC.seq ?_
        refine VC.rs ?_
        refine VO.y rfl (.ixa (i := 2) (o := 2) rfl rfl tar161 rfl rfl rfl) ?_
        refine VO.y rfl (.ld1 2104 rfl tk3 rfl (cellsAt_one rfl rfl)) ?_
        refine VO.mv ?_
        refine VO.kp [118, 2104, 102, 0] [(118, mone g17 (.cells [Value.int .i64 (((sX d0 1048576 : Nat) : Int)), Value.int .i64 (((sX (d0.drop (sN d0 1048576)) 1048576 : Nat) : Int)), Value.slice none (0) (0)].toArray 92 (0, 0))), (2104, mone g3 (.cells [Value.int .i64 (((sX d0 1048576 : Nat) : Int)), Value.int .i64 (((sX (d0.drop (sN d0 1048576)) 1048576 : Nat) : Int)), Value.int .i64 (((sX ((d0.drop (sN d0 1048576)).drop (sN (d0.drop (sN d0 1048576)) 1048576)) 1024 : Nat) : Int))].toArray 161 (0, 0))), (102, mone g1 (.cells [Value.int .i64 (0), Value.int .i64 (0), Value.slice none (0) (0)].toArray 92 (0, 0))), (0, wm W)] ?_
        refine VO.k16 0 2 3 4 5 6 7 8 9 10 14 15 16 27 42 43 ?_
        refine VC.block ?_
        have hrl19 : ((d0.length - (sN d0 1048576)) - (sN (d0.drop (sN d0 1048576)) 1048576)) - (sN ((d0.drop (sN d0 1048576)).drop (sN (d0.drop (sN d0 1048576)) 1048576)) 1024) = (((d0.drop (sN d0 1048576)).drop (sN (d0.drop (sN d0 1048576)) 1048576)).drop (sN ((d0.drop (sN d0 1048576)).drop (sN (d0.drop (sN d0 1048576)) 1048576)) 1024)).length := by simp only [List.length_drop, List.length_take]; try omega
        rw [hrl19]
        replace hs16 := Rd.relen (k := (((d0.drop (sN d0 1048576)).drop (sN (d0.drop (sN d0 1048576)) 1048576)).drop (sN ((d0.drop (sN d0 1048576)).drop (sN (d0.drop (sN d0 1048576)) 1048576)) 1024)).length) hs16 rfl
        refine VC.inv ((120, mnil) :: _) (fun _ h => h.nilc 120) ?_
        refine VC.loop (G := Nat × (List UInt8) × (Option Addr) × Nat × (List DOp) × (Option Addr) × Nat × Mem) (fun g => [(0, Value.slice (g.2.2.1) ((g.2.1).length) ((g.2.2.2.1))), (43, Value.int .i64 ((((g.1) : Nat) : Int))), (2, Value.pointer (some ⟨g1, 0, none⟩)), (4, Value.pointer (some ⟨g3, 0, none⟩)), (5, Value.int .i64 (((2 : Nat) : Int))), (6, Value.int .i64 (1024)), (7, Value.int .i64 (((sX ((d0.drop (sN d0 1048576)).drop (sN (d0.drop (sN d0 1048576)) 1048576)) 1024 : Nat) : Int))), (8, Value.int .i64 (((sN ((d0.drop (sN d0 1048576)).drop (sN (d0.drop (sN d0 1048576)) 1048576)) 1024 : Nat) : Int))), (9, Value.int .i64 (sE ((d0.drop (sN d0 1048576)).drop (sN (d0.drop (sN d0 1048576)) 1048576)) 1024)), (10, Value.pointer (some ⟨g17, 0, none⟩)), (14, Value.agg [Value.int .i64 (1048576), Value.int .i64 (1048576), Value.int .i64 (1024)].toArray), (15, Value.int .i64 (((3 : Nat) : Int))), (16, Value.bool (decide (((3 : Nat) : Int) < 3))), (27, Value.bool (decide (¬ (sE ((d0.drop (sN d0 1048576)).drop (sN (d0.drop (sN d0 1048576)) 1048576)) 1024) = 0))), (42, Value.int .i64 (((sX ((d0.drop (sN d0 1048576)).drop (sN (d0.drop (sN d0 1048576)) 1048576)) 1024 : Nat) : Int)))]) (fun g => [(120, (g.2.2.2.2.2.2.2)), (118, mone g17 (.cells [Value.int .i64 (((sX d0 1048576 : Nat) : Int)), Value.int .i64 (((sX (d0.drop (sN d0 1048576)) 1048576 : Nat) : Int)), Value.slice (g.2.2.2.2.2.1) ((g.2.2.2.2.1).length) ((g.2.2.2.2.2.2.1))].toArray 92 (0, 0))), (2104, mone g3 (.cells [Value.int .i64 (((sX d0 1048576 : Nat) : Int)), Value.int .i64 (((sX (d0.drop (sN d0 1048576)) 1048576 : Nat) : Int)), Value.int .i64 (((sX ((d0.drop (sN d0 1048576)).drop (sN (d0.drop (sN d0 1048576)) 1048576)) 1024 : Nat) : Int))].toArray 161 (0, 0))), (102, mone g1 (.cells [Value.int .i64 (0), Value.int .i64 (0), Value.slice none (0) (0)].toArray 92 (0, 0))), (0, wm W)]) (fun g => ((g.1) ≤ sX ((d0.drop (sN d0 1048576)).drop (sN (d0.drop (sN d0 1048576)) 1048576)) 1024) ∧ (rdOps (sX ((d0.drop (sN d0 1048576)).drop (sN (d0.drop (sN d0 1048576)) 1048576)) 1024) (((d0.drop (sN d0 1048576)).drop (sN (d0.drop (sN d0 1048576)) 1048576)).drop (sN ((d0.drop (sN d0 1048576)).drop (sN (d0.drop (sN d0 1048576)) 1048576)) 1024)) = (rdOps (sX ((d0.drop (sN d0 1048576)).drop (sN (d0.drop (sN d0 1048576)) 1048576)) 1024 - (g.1)) (g.2.1)).map (fun q => ((g.2.2.2.2.1) ++ q.1, q.2))) ∧ ((g.2.2.2.2.1).length ≤ (g.1)) ∧ (Rd (.sl .byte) (wm W) [.slice (g.2.2.1) (g.2.1).length (g.2.2.2.1)] (g.2.1)) ∧ (OwnL TOp (g.2.2.2.2.2.2.2) mnil (.slice (g.2.2.2.2.2.1) (g.2.2.2.2.1).length (g.2.2.2.2.2.2.1)) (g.2.2.2.2.1))) (fun g => sX ((d0.drop (sN d0 1048576)).drop (sN (d0.drop (sN d0 1048576)) 1048576)) 1024 - (g.1)) (0, ((d0.drop (sN d0 1048576)).drop (sN (d0.drop (sN d0 1048576)) 1048576)).drop (sN ((d0.drop (sN d0 1048576)).drop (sN (d0.drop (sN d0 1048576)) 1048576)) 1024), A16, ((c0 - (sN d0 1048576)) - (sN (d0.drop (sN d0 1048576)) 1048576)) - (sN ((d0.drop (sN d0 1048576)).drop (sN (d0.drop (sN d0 1048576)) 1048576)) 1024), [], none, 0, mnil) (⟨by omega, by exact rdOps_0 _ _, by simp, hs16, (OwnL.nil TOp mnil mnil)⟩) ⟨⟨rfl, rfl, rfl, rfl, rfl, rfl, rfl, rfl, rfl, rfl, rfl, rfl, rfl, rfl, rfl, trivial⟩, fun _ h => h.sub [120, 118, 2104, 102, 0]⟩ ?_
        rintro ⟨j, b, b_A, b_c, l, l_A, l_c, l_m⟩ ⟨hj, hl, hll, h_b, h_l⟩
        replace hj : j ≤ sX ((d0.drop (sN d0 1048576)).drop (sN (d0.drop (sN d0 1048576)) 1048576)) 1024 := hj
        replace hl : rdOps (sX ((d0.drop (sN d0 1048576)).drop (sN (d0.drop (sN d0 1048576)) 1048576)) 1024) (((d0.drop (sN d0 1048576)).drop (sN (d0.drop (sN d0 1048576)) 1048576)).drop (sN ((d0.drop (sN d0 1048576)).drop (sN (d0.drop (sN d0 1048576)) 1048576)) 1024)) = (rdOps (sX ((d0.drop (sN d0 1048576)).drop (sN (d0.drop (sN d0 1048576)) 1048576)) 1024 - j) b).map (fun q => (l ++ q.1, q.2)) := hl
        replace hll : l.length ≤ j := hll
        replace h_b : Rd (.sl .byte) (wm W) [.slice b_A b.length b_c] b := h_b
        replace h_l : OwnL TOp l_m mnil (.slice l_A l.length l_c) l := h_l
        show VC _ _ _ _ _ [(0, Value.slice b_A (b.length) (b_c)), (43, Value.int .i64 (((j : Nat) : Int))), (2, Value.pointer (some ⟨g1, 0, none⟩)), (4, Value.pointer (some ⟨g3, 0, none⟩)), (5, Value.int .i64 (((2 : Nat) : Int))), (6, Value.int .i64 (1024)), (7, Value.int .i64 (((sX ((d0.drop (sN d0 1048576)).drop (sN (d0.drop (sN d0 1048576)) 1048576)) 1024 : Nat) : Int))), (8, Value.int .i64 (((sN ((d0.drop (sN d0 1048576)).drop (sN (d0.drop (sN d0 1048576)) 1048576)) 1024 : Nat) : Int))), (9, Value.int .i64 (sE ((d0.drop (sN d0 1048576)).drop (sN (d0.drop (sN d0 1048576)) 1048576)) 1024)), (10, Value.pointer (some ⟨g17, 0, none⟩)), (14, Value.agg [Value.int .i64 (1048576), Value.int .i64 (1048576), Value.int .i64 (1024)].toArray), (15, Value.int .i64 (((3 : Nat) : Int))), (16, Value.bool (decide (((3 : Nat) : Int) < 3))), (27, Value.bool (decide (¬ (sE ((d0.drop (sN d0 1048576)).drop (sN (d0.drop (sN d0 1048576)) 1048576)) 1024) = 0))), (42, Value.int .i64 (((sX ((d0.drop (sN d0 1048576)).drop (sN (d0.drop (sN d0 1048576)) 1048576)) 1024 : Nat) : Int)))] [(120, l_m), (118, mone g17 (.cells [Value.int .i64 (((sX d0 1048576 : Nat) : Int)), Value.int .i64 (((sX (d0.drop (sN d0 1048576)) 1048576 : Nat) : Int)), Value.slice l_A (l.length) (l_c)].toArray 92 (0, 0))), (2104, mone g3 (.cells [Value.int .i64 (((sX d0 1048576 : Nat) : Int)), Value.int .i64 (((sX (d0.drop (sN d0 1048576)) 1048576 : Nat) : Int)), Value.int .i64 (((sX ((d0.drop (sN d0 1048576)).drop (sN (d0.drop (sN d0 1048576)) 1048576)) 1024 : Nat) : Int))].toArray 161 (0, 0))), (102, mone g1 (.cells [Value.int .i64 (0), Value.int .i64 (0), Value.slice none (0) (0)].toArray 92 (0, 0))), (0, wm W)]
        have l_b : b.length ≤ b_c := by obtain ⟨_, _, he, hl, _⟩ := h_b.slice; simp only [Value.slice.injEq] at he; omega
        have k_b : b_c ≤ 9223372036854775807 := by obtain ⟨_, _, he, _, hl⟩ := h_b.slice; simp only [Value.slice.injEq, maxLen] at he hl; omega
        have l_l : l.length ≤ l_c := by obtain ⟨_, _, he, hl, _⟩ := h_l.slice; simp only [Value.slice.injEq] at he; omega
        have k_l : l_c ≤ 9223372036854775807 := by obtain ⟨_, _, he, _, hl⟩ := h_l.slice; simp only [Value.slice.injEq, maxLen] at he hl; omega
        refine VC.rs ?_
        refine VO.y rfl (.lss rfl rfl) ?_
        refine VO.k16 0 2 4 5 6 7 8 9 10 14 15 16 27 42 43 44 ?_
        refine VC.seq ?_
        refine VC.cond rfl (fun hc21 => ?_) (fun hc21 => ?_)
        · -- RFRFRFRT
          refine VC.skip ?_
          refine outN ?_
          refine VC.seq ?_
          refine VC.block ?_
          refine VC.rs ?_
          refine VO.mv ?_
          refine VO.callN 122 rfl fnOk135 rfl (fun W hW => opRead_ok W (Rd.mono h_b (hW.at (i := 0) rfl))) (fun v22 m22 hv22 => ?_)
          obtain ⟨s22_0, rfl, f22_0⟩ := hv22
          have hfa23 := opRd_fits b
          obtain ⟨rfl, q22_0_1, q22_0_2⟩ := open_Op (x0 := ((opRd b).1).1) (x1 := ((opRd b).1).2.1) (x2 := ((opRd b).1).2.2) (f22_0.rd (mle_refl _))
          simp only [maxLen] at q22_0_1
          simp only [maxLen] at q22_0_2
          refine VO.mv ?_
          refine VO.y rfl (.ext rfl rfl) ?_
          refine VO.y rfl (.ext rfl rfl) ?_
          refine VO.y rfl (.ext rfl rfl) ?_
          refine VO.alloc 125 rfl tz64 (fun g24 => ?_)
          refine VO.store (k := 3) (c' := [Value.bool (((opRd b).1).1), str (((opRd b).1).2.1), str (((opRd b).1).2.2)]) 125 rfl rfl (.inl tk64) rfl rfl rfl rfl rfl ?_
          refine VO.as ?_
          refine VO.as ?_
          refine VO.k19 0 2 4 5 6 7 8 9 10 11 12 13 14 15 16 27 42 43 44 ?_
          refine VC.seq ?_
          refine VC.rs ?_
          refine VO.mv ?_
          refine VO.y rfl (.neq rfl rfl) ?_
          refine VO.kp [125, 120, 118, 2104, 102, 0] [(125, mone g24 (.cells [Value.bool (((opRd b).1).1), str (((opRd b).1).2.1), str (((opRd b).1).2.2)].toArray 64 (0, 0))), (120, l_m), (118, mone g17 (.cells [Value.int .i64 (((sX d0 1048576 : Nat) : Int)), Value.int .i64 (((sX (d0.drop (sN d0 1048576)) 1048576 : Nat) : Int)), Value.slice l_A (l.length) (l_c)].toArray 92 (0, 0))), (2104, mone g3 (.cells [Value.int .i64 (((sX d0 1048576 : Nat) : Int)), Value.int .i64 (((sX (d0.drop (sN d0 1048576)) 1048576 : Nat) : Int)), Value.int .i64 (((sX ((d0.drop (sN d0 1048576)).drop (sN (d0.drop (sN d0 1048576)) 1048576)) 1024 : Nat) : Int))].toArray 161 (0, 0))), (102, mone g1 (.cells [Value.int .i64 (0), Value.int .i64 (0), Value.slice none (0) (0)].toArray 92 (0, 0))), (0, wm W)] ?_
          refine VO.k20 0 2 4 5 6 7 8 9 10 11 12 13 14 15 16 27 42 43 44 52 ?_
          refine VC.cond rfl (fun hc26 => ?_) (fun hc26 => ?_)
          · -- RFRFRFRTT
            refine VC.rs ?_
            refine VO.y rfl (.bst (cs := [Value.int .i64 (0), Value.int .i64 (0), Value.slice none (0) (0)]) rfl tst92 tz92 rfl) ?_
            refine VO.store (k := 3) (c' := [Value.int .i64 (0), Value.int .i64 (0), Value.slice none (0) (0)]) 102 rfl rfl (.inl tk92) rfl rfl rfl rfl rfl ?_
            refine VO.as ?_
            refine VO.k21 0 2 3 4 5 6 7 8 9 10 11 12 13 14 15 16 27 42 43 44 52 ?_
            refine VC.ret ?_
            refine outR ?_
            refine outBR ?_
            refine outR ?_
            refine outR ?_
            refine outBR ?_
            refine outR ?_
            refine ⟨_, _, res_run (rs := [.cell 2 92, .tmp 3]) rfl (.agg 102 rfl tk92 rfl ⟨_, _, _, mone_self _ _, Nat.le_of_ble_eq_true rfl, rfl⟩ (.tmp rfl .nil)), fun W_ hI => out_of (l := []) hI [] rfl rfl (mle_refl _) (fun hS_ => ?_)⟩
            dsimp only [packV]
            have he0 : ((runDecode d0).1 : Ty.Den TRun) = (0, 0, []) := by first | rfl | (exact fin0_runDecode_ok)
            refine ⟨[Value.int .i64 (0), Value.int .i64 (0), Value.slice none (0) (0)], ?_, ?_⟩
            rotate_left
            · rw [he0]; exact (mkO_Run 0 0 [] (Seps.nilAt 0 hS_) bdk bdk (Ow.nil _ _))
            all_goals (first | rfl | (exact fin0_runDecode_ok))
          · -- RFRFRFRTF
            refine VC.skip ?_
            refine outN ?_
            refine VC.inv _ (fun _ h => Inv.num h 118 2118 rfl) ?_
            refine VC.inv _ (fun _ h => Inv.num h 2104 104 rfl) ?_
            refine VC.regD _ 10 [(0, true), (1, true), (2, true), (5, true), (6, true), (7, true), (3, false), (4, false), (8, true), (9, false)] follows (by kernel_rfl) (fun _ h => h.sub [125, 2118, 104, 102, 0]) ?_
            refine VD.y rfl rfl (.inl rfl) (.fa rfl tst92 rfl) ?_
            refine VD.yH rfl rfl (.inl rfl) (by kernel_rfl) (.ld1 2118 rfl tk34 rfl (cellsAt_one rfl rfl)) ?_
            refine VD.y rfl rfl (.inl rfl) (.ldA 125 rfl tk64 rfl (cellsAt_one rfl rfl)) ?_
            refine VD.y rfl rfl (.inl rfl) (.mv rfl) ?_
            refine VD.y rfl rfl (.inl rfl) (.mv rfl) ?_
            obtain ⟨A27, hA27, hs27⟩ := h_b.drop 1 (((opRd b).2.1).toNat) rfl bd
            refine VD.y rfl rfl (.inl rfl) (.slLI (((opRd b).2.1).toNat) A27 rfl rfl tsl97 bd hA27 bd) ?_
            refine VD.bsl (cs := [Value.bool (((opRd b).1).1), str (((opRd b).1).2.1), str (((opRd b).1).2.2)]) 129 rfl rfl rfl tsl34 tz64 rfl rfl (fun _ h => h.sub [125, 2118, 104, 102, 0]) (fun g28 => ?_)
            obtain ⟨mo30, cs30, hM30, hA30, hC30⟩ := h_l
            refine VD.app 120 rfl rfl rfl rfl tsl34 tz64 rfl rfl hM30 hA30 (.row 129 _ _ _ 1 1 _ _ Tryz.underlying34 rfl (cellsAt_one rfl rfl)) (by simp [Value.oneCell']) bdm bd (by decide) (fun _ _ h => h.sub [125, 2118, 104, 102, 0]) (fun v30 m30 hN30 => ?_)
            have ho30 : OwnL TOp m30 mnil v30 (l ++ [((opRd b).1)]) := OwnL.one hC30 hN30 (show Rd TOp _ _ ((opRd b).1) from (mk_Op (m := _) (((opRd b).1).1) (((opRd b).1).2.1) (((opRd b).1).2.2) bdm bdm))
            obtain ⟨A30, c30, rfl, l30, k30⟩ := ho30.slice
            simp only [maxLen] at k30
            refine VD.y rfl rfl (.inl rfl) (.fa rfl tst92 rfl) ?_
            refine VD.storeH (k := 1) (c' := [Value.int .i64 (((sX d0 1048576 : Nat) : Int)), Value.int .i64 (((sX (d0.drop (sN d0 1048576)) 1048576 : Nat) : Int)), Value.slice A30 ((l ++ [((opRd b).1)]).length) (c30)]) 2118 rfl rfl rfl (.inr ⟨tk34, rfl⟩) rfl rfl rfl rfl rfl (fun _ h => h.sub [125, 104, 102, 0]) ?_
            refine VD.nil rfl ?_ rfl
            refine VO.as ?_
            refine VO.k20 0 2 4 5 6 7 8 9 10 11 12 13 14 15 16 27 42 43 44 52 ?_
            refine outBN ?_
            refine outN ?_
            refine VC.reg ?_
            refine VO.y rfl (.add (c := ((j + 1 : Nat) : Int)) rfl rfl (by omega) ⟨bd, bd⟩) ?_
            refine VO.mv ?_
            refine VO.k20 0 2 4 5 6 7 8 9 10 11 12 13 14 15 16 27 42 43 44 52 ?_
            have hrl31 : b.length - (((opRd b).2.1).toNat) = (b.drop (((opRd b).2.1).toNat)).length := by simp only [List.length_drop, List.length_take]; try omega
            rw [hrl31]
            exact outN ⟨⟨j + 1, b.drop (((opRd b).2.1).toNat), A27, b_c - (((opRd b).2.1).toNat), l ++ [((opRd b).1)], A30, c30, m30⟩, ⟨by omega, by exact rdOps_next hl (by omega) (by assumption), by (simp only [List.length_append, List.length_cons, List.length_nil]; omega), (Rd.relen hs27 rfl), ho30⟩, bd, ⟨⟨rfl, rfl, rfl, rfl, rfl, rfl, rfl, rfl, rfl, rfl, rfl, rfl, rfl, rfl, rfl, trivial⟩, fun _ h => Inv.sub (Inv.num (Inv.num h 2118 118 rfl) 104 2104 rfl) [120, 118, 2104, 102, 0]⟩⟩
        · -- RFRFRFRF
          refine VC.exit ?_
          refine outE ?_
          refine outE ?_
          refine outBB ?_
          refine outN ?_
          refine VC.seq ?_
          refine VC.rs ?_
          refine VO.mv ?_
          refine VO.y rfl (.lenS rfl tsl97) ?_
          refine VO.y rfl (.gtr rfl rfl) ?_
          refine VO.mv ?_
          refine VO.dec (t := 67) rfl (fun hc32 => ?_) (fun hc32 => ?_)
          · -- RFRFRFRFT
            refine VO.gN ?_
            refine VO.gN ?_
            refine VO.gN ?_
            refine VO.y rfl (.pT rfl rfl) ?_
            refine VO.k17 0 2 4 5 6 7 8 9 10 14 15 16 27 42 43 44 71 ?_
            refine VC.condT rfl ?_
            refine VC.rs ?_
            refine VO.y rfl (.bst (cs := [Value.int .i64 (0), Value.int .i64 (0), Value.slice none (0) (0)]) rfl tst92 tz92 rfl) ?_
            refine VO.store (k := 3) (c' := [Value.int .i64 (0), Value.int .i64 (0), Value.slice none (0) (0)]) 102 rfl rfl (.inl tk92) rfl rfl rfl rfl rfl ?_
            refine VO.as ?_
            refine VO.kp [120, 118, 2104, 102, 0] [(120, l_m), (118, mone g17 (.cells [Value.int .i64 (((sX d0 1048576 : Nat) : Int)), Value.int .i64 (((sX (d0.drop (sN d0 1048576)) 1048576 : Nat) : Int)), Value.slice l_A (l.length) (l_c)].toArray 92 (0, 0))), (2104, mone g3 (.cells [Value.int .i64 (((sX d0 1048576 : Nat) : Int)), Value.int .i64 (((sX (d0.drop (sN d0 1048576)) 1048576 : Nat) : Int)), Value.int .i64 (((sX ((d0.drop (sN d0 1048576)).drop (sN (d0.drop (sN d0 1048576)) 1048576)) 1024 : Nat) : Int))].toArray 161 (0, 0))), (102, mone g1 (.cells [Value.int .i64 (0), Value.int .i64 (0), Value.slice none (0) (0)].toArray 92 (0, 0))), (0, wm W)] ?_
            refine VO.k18 0 2 3 4 5 6 7 8 9 10 14 15 16 27 42 43 44 71 ?_
            refine VC.ret ?_
            refine outR ?_
            refine ⟨_, _, res_run (rs := [.cell 2 92, .tmp 3]) rfl (.agg 102 rfl tk92 rfl ⟨_, _, _, mone_self _ _, Nat.le_of_ble_eq_true rfl, rfl⟩ (.tmp rfl .nil)), fun W_ hI => out_of (l := []) hI [] rfl rfl (mle_refl _) (fun hS_ => ?_)⟩
            dsimp only [packV]
            have he0 : ((runDecode d0).1 : Ty.Den TRun) = (0, 0, []) := by first | rfl | (exact fin0_runDecode_ok)
            refine ⟨[Value.int .i64 (0), Value.int .i64 (0), Value.slice none (0) (0)], ?_, ?_⟩
            rotate_left
            · rw [he0]; exact (mkO_Run 0 0 [] (Seps.nilAt 0 hS_) bdk bdk (Ow.nil _ _))
            all_goals (first | rfl | (exact fin0_runDecode_ok))
          · -- RFRFRFRFF
            refine VO.gy rfl ⟨_, rfl, rfl⟩ (.ldA 118 rfl tk92 rfl (cellsAt_one rfl rfl)) ?_
            refine VO.gcallN 133 rfl ⟨_, rfl, rfl⟩ fnOk124 rfl (fun W hW => runCheck_ok_ W (mk_Run (m := wm W) ((sX d0 1048576 : Nat) : Int) ((sX (d0.drop (sN d0 1048576)) 1048576 : Nat) : Int) l bdk bdk (OwnL.rd h_l (hW.at (i := 120) rfl) (mle_nil _)))) (fun v33 m33 hv33 => ?_)
            try dsimp only at hv33
            subst hv33
            have hfa34 := runCheck_range (((sX d0 1048576 : Nat) : Int), ((sX (d0.drop (sN d0 1048576)) 1048576 : Nat) : Int), l)
            refine VO.gy rfl ⟨_, rfl, rfl⟩ (.neq rfl rfl) ?_
            refine VO.y rfl (.pF rfl rfl) ?_
            refine VO.k17 0 2 4 5 6 7 8 9 10 14 15 16 27 42 43 44 71 ?_
            refine VC.cond rfl (fun hc35 => ?_) (fun hc35 => ?_)
            · -- RFRFRFRFFT
              refine VC.rs ?_
              refine VO.y rfl (.bst (cs := [Value.int .i64 (0), Value.int .i64 (0), Value.slice none (0) (0)]) rfl tst92 tz92 rfl) ?_
              refine VO.store (k := 3) (c' := [Value.int .i64 (0), Value.int .i64 (0), Value.slice none (0) (0)]) 102 rfl rfl (.inl tk92) rfl rfl rfl rfl rfl ?_
              refine VO.as ?_
              refine VO.kp [120, 118, 2104, 102, 0] [(120, l_m), (118, mone g17 (.cells [Value.int .i64 (((sX d0 1048576 : Nat) : Int)), Value.int .i64 (((sX (d0.drop (sN d0 1048576)) 1048576 : Nat) : Int)), Value.slice l_A (l.length) (l_c)].toArray 92 (0, 0))), (2104, mone g3 (.cells [Value.int .i64 (((sX d0 1048576 : Nat) : Int)), Value.int .i64 (((sX (d0.drop (sN d0 1048576)) 1048576 : Nat) : Int)), Value.int .i64 (((sX ((d0.drop (sN d0 1048576)).drop (sN (d0.drop (sN d0 1048576)) 1048576)) 1024 : Nat) : Int))].toArray 161 (0, 0))), (102, mone g1 (.cells [Value.int .i64 (0), Value.int .i64 (0), Value.slice none (0) (0)].toArray 92 (0, 0))), (0, wm W)] ?_
              refine VO.k18 0 2 3 4 5 6 7 8 9 10 14 15 16 27 42 43 44 71 ?_
              refine VC.ret ?_
              refine outR ?_
              refine ⟨_, _, res_run (rs := [.cell 2 92, .tmp 3]) rfl (.agg 102 rfl tk92 rfl ⟨_, _, _, mone_self _ _, Nat.le_of_ble_eq_true rfl, rfl⟩ (.tmp rfl .nil)), fun W_ hI => out_of (l := []) hI [] rfl rfl (mle_refl _) (fun hS_ => ?_)⟩
              dsimp only [packV]
              have he0 : ((runDecode d0).1 : Ty.Den TRun) = (0, 0, []) := by first | rfl | (exact fin0_runDecode_ok)
              refine ⟨[Value.int .i64 (0), Value.int .i64 (0), Value.slice none (0) (0)], ?_, ?_⟩
              rotate_left
              · rw [he0]; exact (mkO_Run 0 0 [] (Seps.nilAt 0 hS_) bdk bdk (Ow.nil _ _))
              all_goals (first | rfl | (exact fin0_runDecode_ok))
            · -- RFRFRFRFFF
              refine VC.skip ?_
              refine outN ?_
              refine VC.rs ?_
              refine VO.y rfl (.ldA 118 rfl tk92 rfl (cellsAt_one rfl rfl)) ?_
              refine VO.store (k := 3) (c' := [Value.int .i64 (((sX d0 1048576 : Nat) : Int)), Value.int .i64 (((sX (d0.drop (sN d0 1048576)) 1048576 : Nat) : Int)), Value.slice l_A (l.length) (l_c)]) 102 rfl rfl (.inl tk92) rfl rfl rfl rfl rfl ?_
              refine VO.as ?_
              refine VO.kp [120, 118, 2104, 102, 0] [(120, l_m), (118, mone g17 (.cells [Value.int .i64 (((sX d0 1048576 : Nat) : Int)), Value.int .i64 (((sX (d0.drop (sN d0 1048576)) 1048576 : Nat) : Int)), Value.slice l_A (l.length) (l_c)].toArray 92 (0, 0))), (2104, mone g3 (.cells [Value.int .i64 (((sX d0 1048576 : Nat) : Int)), Value.int .i64 (((sX (d0.drop (sN d0 1048576)) 1048576 : Nat) : Int)), Value.int .i64 (((sX ((d0.drop (sN d0 1048576)).drop (sN (d0.drop (sN d0 1048576)) 1048576)) 1024 : Nat) : Int))].toArray 161 (0, 0))), (102, mone g1 (.cells [Value.int .i64 (((sX d0 1048576 : Nat) : Int)), Value.int .i64 (((sX (d0.drop (sN d0 1048576)) 1048576 : Nat) : Int)), Value.slice l_A (l.length) (l_c)].toArray 92 (0, 0))), (0, wm W)] ?_
              refine VO.k18 0 2 3 4 5 6 7 8 9 10 14 15 16 27 42 43 44 71 ?_
              refine VC.ret ?_
              refine ⟨_, _, res_run (rs := [.cell 2 92, .tmp 3]) rfl (.agg 102 rfl tk92 rfl ⟨_, _, _, mone_self _ _, Nat.le_of_ble_eq_true rfl, rfl⟩ (.tmp rfl .nil)), fun W_ hI => out_of (l := [l_m]) hI [120] rfl rfl (mle_refl _) (fun hS_ => ?_)⟩
              dsimp only [packV]
              have he0 : ((runDecode d0).1 : Ty.Den TRun) = (((sX d0 1048576 : Nat) : Int), ((sX (d0.drop (sN d0 1048576)) 1048576 : Nat) : Int), l) := by first | rfl | (exact fin0_runDecode_ok)
              refine ⟨[Value.int .i64 (((sX d0 1048576 : Nat) : Int)), Value.int .i64 (((sX (d0.drop (sN d0 1048576)) 1048576 : Nat) : Int)), Value.slice l_A (l.length) (l_c)], ?_, ?_⟩
              rotate_left
              · rw [he0]; exact (mkO_Run ((sX d0 1048576 : Nat) : Int) ((sX (d0.drop (sN d0 1048576)) 1048576 : Nat) : Int) l hS_ bdk bdk (OwnL.ow h_l rfl))
              all_goals (first | rfl | (exact fin0_runDecode_ok))
abbrev DHC := Int × Int × Hd
instance decHC : DecidableEq DHC := (@instDecidableEqProd _ _ inferInstance (@instDecidableEqProd _ _ inferInstance inferInstance))
theorem fnOk132 : fnOk Tryz.prog 132 = true := by kernel_rfl
theorem fnOk133 : fnOk Tryz.prog 133 = true := by kernel_rfl
theorem cloneB_ok (W : World) {v0 : Value} {d0 : List UInt8} (h0 : Rd (.sl .byte) (wm W) [v0] d0) (e0 : d0.length ≤ 140737488355000) : CallR Tryz.prog 133 [v0] W (mnil) (fun v m' => ∃ (s0 : Value), v = s0 ∧ Ow (.sl .byte) m' [s0] (d0)) := by
  obtain ⟨A0, c0, rfl, l0, k0⟩ := h0.slice
  simp only [maxLen] at k0
  refine CallR.ofA (n := 8) Tryz.func133 rfl rfl rfl ?_
  refine VC.rs ?_
  refine VO.as ?_
  refine VO.k2 0 2 ?_
  refine VC.seq ?_
  refine VC.rs ?_
  refine VO.mv ?_
  refine VO.y rfl (.snil rfl rfl Tryz.underlying97) ?_
  refine VO.k3 0 2 4 ?_
  refine VC.cond rfl (fun hc1 => ?_) (fun hc1 => ?_)
  · -- T
    refine VC.rs ?_
    refine VO.as ?_
    refine VO.kp [0] [(0, wm W)] ?_
    refine VO.k3 0 2 4 ?_
    refine VC.ret ?_
    refine outR ?_
    refine ⟨_, _, res_run (rs := [.tmp 2]) rfl (.tmp rfl .nil), fun W_ hI => out_of (l := []) hI [] rfl rfl (mle_refl _) (fun hS_ => ?_)⟩
    dsimp only [packV]
    have he0 : (d0 : Ty.Den (.sl .byte)) = [] := by first | rfl | (exact clone_nil' h0 ‹_ = none›)
    refine ⟨Value.slice none (0) (0), ?_, ?_⟩
    rotate_left
    · rw [he0]; exact (Ow.nil _ _)
    all_goals (first | rfl | (simp [*]; done))
  · -- F
    refine VC.skip ?_
    refine outN ?_
    refine VC.rs ?_
    refine VO.bsl (cs := []) 103 rfl rfl tsl97 tz5 rfl rfl (fun g2 => ?_)
    refine VO.mv ?_
    have ho5 : OwnL .byte (mone g2 (.cells [].toArray 5 (0, 0))) mnil (Value.slice (some ⟨g2, 0, none⟩) (0) (0)) [] := OwnL.lit 0 All2c.nil rfl rfl
    obtain ⟨mo4, cs4, hM4, hA4, hC4⟩ := ho5
    obtain ⟨all4, hS4, hR4⟩ := Rd.srcI (P := Tryz.prog) (h0) Tryz.underlying97
    refine VO.app 103 rfl rfl rfl tsl97 tz5 rfl rfl hM4 hA4 (hS4 _ 0 rfl) hR4.nice bdm bd (by decide) (fun v4 m4 hN4 => ?_)
    have ho4 : OwnL .byte m4 mnil v4 (d0) := OwnL.more hC4 hN4 (All2c.mono hR4 fun _ _ h => Rd.flat rfl h _)
    obtain ⟨A4, c4, rfl, l4, k4⟩ := ho4.slice
    simp only [maxLen] at k4
    refine VO.as ?_
    refine VO.kp [103, 0] [(103, m4), (0, wm W)] ?_
    refine VO.k3 0 2 4 ?_
    refine VC.ret ?_
    refine ⟨_, _, res_run (rs := [.tmp 2]) rfl (.tmp rfl .nil), fun W_ hI => out_of (l := [m4]) hI [103] rfl rfl (mle_refl _) (fun hS_ => ?_)⟩
    dsimp only [packV]
    have he0 : (d0 : Ty.Den (.sl .byte)) = d0 := by first | rfl | (exact clone_nil' h0 ‹_ = none›)
    refine ⟨Value.slice A4 ((d0).length) (c4), ?_, ?_⟩
    rotate_left
    · rw [he0]; exact (Ow.up (OwnL.ow ho4 rfl) (hS_.1 _ (.head _)))
    all_goals (first | rfl | (simp [*]; done))
theorem fWhole_ok (W : World) {v0 : Value} {d0 : List UInt8} (h0 : Rd (.sl .byte) (wm W) [v0] d0) : CallR Tryz.prog 132 [v0] W (mnil) (fun v m' => v = .tuple #[.int .i64 ((fWhole d0).1), .int .i64 ((fWhole d0).2.1), .bool ((fWhole d0).2.2)]) := by
  obtain ⟨A0, c0, rfl, l0, k0⟩ := h0.slice
  simp only [maxLen] at k0
  refine CallR.ofA (n := 28) Tryz.func132 rfl rfl rfl ?_
  refine VC.rs ?_
  refine VO.as ?_
  refine VO.as ?_
  refine VO.as ?_
  refine VO.k4 0 2 3 4 ?_
  refine VC.rs ?_
  refine VO.mv ?_
  refine VO.callN 101 rfl fnOk134 rfl (fun W hW => vSmall_ok W (Rd.mono h0 (hW.at (i := 0) rfl)) 131072 bdk) (fun v1 m1 hv1 => ?_)
  subst hv1
  have hfa2 := s_bounds d0 131072 (by omega)
  refine VO.mv ?_
  refine VO.y rfl (.ext rfl rfl) ?_
  refine VO.y rfl (.ext rfl rfl) ?_
  refine VO.y rfl (.ext rfl rfl) ?_
  refine VO.as ?_
  refine VO.as ?_
  refine VO.as ?_
  refine VO.k7 0 2 3 4 5 6 7 ?_
  refine VC.seq ?_
  refine VC.rs ?_
  refine VO.mv ?_
  refine VO.y rfl (.neq rfl rfl) ?_
  refine VO.mv ?_
  refine VO.dec (t := 16) rfl (fun hc3 => ?_) (fun hc3 => ?_)
  · -- T
    refine VO.gN ?_
    refine VO.gN ?_
    refine VO.gN ?_
    refine VO.gN ?_
    refine VO.gN ?_
    refine VO.gN ?_
    refine VO.y rfl (.pT rfl rfl) ?_
    refine VO.kp [0] [(0, wm W)] ?_
    refine VO.k8 0 2 3 4 5 6 7 23 ?_
    refine VC.condT rfl ?_
    refine VC.rs ?_
    refine VO.as ?_
    refine VO.as ?_
    refine VO.as ?_
    refine VO.k8 0 2 3 4 5 6 7 23 ?_
    refine VC.ret ?_
    refine outR ?_
    refine ⟨_, _, res_run (rs := [.tmp 2, .tmp 3, .tmp 4]) rfl (.tmp rfl (.tmp rfl (.tmp rfl .nil))), fun W_ hI => out_of (l := []) hI [] rfl rfl (mle_refl _) (fun hS_ => ?_)⟩
    dsimp only [packV]
    all_goals (first | rfl | (first | (rw [whole_no1 (by assumption)] <;> rfl) | (rw [whole_no2 (by omega)] <;> rfl) | (rw [whole_yes (by assumption) (by omega)] <;> rfl)))
  · -- F
    refine VO.gy rfl ⟨_, rfl, rfl⟩ (.mv rfl) ?_
    refine VO.gy rfl ⟨_, rfl, rfl⟩ (.lenS rfl tsl97) ?_
    refine VO.gy rfl ⟨_, rfl, rfl⟩ (.mv rfl) ?_
    refine VO.gy rfl ⟨_, rfl, rfl⟩ (.sub rfl rfl rfl ⟨bd, bd⟩) ?_
    refine VO.gy rfl ⟨_, rfl, rfl⟩ (.mv rfl) ?_
    refine VO.gy rfl ⟨_, rfl, rfl⟩ (.lss rfl rfl) ?_
    refine VO.y rfl (.pF rfl rfl) ?_
    refine VO.kp [0] [(0, wm W)] ?_
    refine VO.k8 0 2 3 4 5 6 7 23 ?_
    refine VC.cond rfl (fun hc4 => ?_) (fun hc4 => ?_)
    · -- FT
      refine VC.rs ?_
      refine VO.as ?_
      refine VO.as ?_
      refine VO.as ?_
      refine VO.k8 0 2 3 4 5 6 7 23 ?_
      refine VC.ret ?_
      refine outR ?_
      refine ⟨_, _, res_run (rs := [.tmp 2, .tmp 3, .tmp 4]) rfl (.tmp rfl (.tmp rfl (.tmp rfl .nil))), fun W_ hI => out_of (l := []) hI [] rfl rfl (mle_refl _) (fun hS_ => ?_)⟩
      dsimp only [packV]
      all_goals (first | rfl | (first | (rw [whole_no1 (by assumption)] <;> rfl) | (rw [whole_no2 (by omega)] <;> rfl) | (rw [whole_yes (by assumption) (by omega)] <;> rfl)))
    · -- FF
      refine VC.skip ?_
      refine outN ?_
      refine VC.rs ?_
      refine VO.mv ?_
      refine VO.mv ?_
      refine VO.mv ?_
      refine VO.y rfl (.add (c := ((sN d0 131072 + (sX d0 131072) : Nat) : Int)) rfl rfl (by omega) ⟨bd, bd⟩) ?_
      refine VO.as ?_
      refine VO.as ?_
      refine VO.as ?_
      refine VO.k8 0 2 3 4 5 6 7 23 ?_
      refine VC.ret ?_
      refine ⟨_, _, res_run (rs := [.tmp 2, .tmp 3, .tmp 4]) rfl (.tmp rfl (.tmp rfl (.tmp rfl .nil))), fun W_ hI => out_of (l := []) hI [] rfl rfl (mle_refl _) (fun hS_ => ?_)⟩
      dsimp only [packV]
      all_goals (first | rfl | (first | (rw [whole_no1 (by assumption)] <;> rfl) | (rw [whole_no2 (by omega)] <;> rfl) | (rw [whole_yes (by assumption) (by omega)] <;> rfl)))
theorem fRead_ok (W : World) {v0 : Value} {d0 : List UInt8} (h0 : Rd (.sl .byte) (wm W) [v0] d0) : CallR Tryz.prog 100 [v0] W (mnil) (fun v m' => ∃ (s0 : Value), v = .tuple #[s0, .int .i64 ((fRead d0).2.1), .int .i64 ((fRead d0).2.2)] ∧ Ow (.sl .byte) m' [s0] ((fRead d0).1)) := by
  obtain ⟨A0, c0, rfl, l0, k0⟩ := h0.slice
  simp only [maxLen] at k0
  refine CallR.ofA (n := 22) Tryz.func100 rfl rfl rfl ?_
  refine VC.rs ?_
  refine VO.as ?_
  refine VO.as ?_
  refine VO.as ?_
  refine VO.k4 0 2 3 4 ?_
  refine VC.rs ?_
  refine VO.mv ?_
  refine VO.callN 101 rfl fnOk132 rfl (fun W hW => fWhole_ok W (Rd.mono h0 (hW.at (i := 0) rfl))) (fun v1 m1 hv1 => ?_)
  subst hv1
  have hfa2 := fWhole_bounds d0
  refine VO.mv ?_
  refine VO.y rfl (.ext rfl rfl) ?_
  refine VO.y rfl (.ext rfl rfl) ?_
  refine VO.y rfl (.ext rfl rfl) ?_
  refine VO.as ?_
  refine VO.as ?_
  refine VO.as ?_
  refine VO.k7 0 2 3 4 5 6 7 ?_
  refine VC.seq ?_
  refine VC.rs ?_
  refine VO.mv ?_
  refine VO.y rfl (.not rfl) ?_
  refine VO.kp [0] [(0, wm W)] ?_
  refine VO.k8 0 2 3 4 5 6 7 15 ?_
  refine VC.condBN rfl (fun hc3 => ?_) (fun hc3 => ?_)
  · -- T
    refine VC.rs ?_
    refine VO.as ?_
    refine VO.as ?_
    refine VO.as ?_
    refine VO.k8 0 2 3 4 5 6 7 15 ?_
    refine VC.ret ?_
    refine outR ?_
    refine ⟨_, _, res_run (rs := [.tmp 2, .tmp 3, .tmp 4]) rfl (.tmp rfl (.tmp rfl (.tmp rfl .nil))), fun W_ hI => out_of (l := []) hI [] rfl rfl (mle_refl _) (fun hS_ => ?_)⟩
    dsimp only [packV]
    have he0 : ((fRead d0).1 : Ty.Den (.sl .byte)) = [] := by first | rfl | (first | (rw [fRead_bad (by first | assumption | simpa using ‹_›)] <;> rfl) | (rw [fRead_good (by first | assumption | simpa using ‹_›)] <;> rfl))
    refine ⟨Value.slice none (0) (0), ?_, ?_⟩
    rotate_left
    · rw [he0]; exact (Ow.nil _ _)
    all_goals (first | rfl | (first | (rw [fRead_bad (by first | assumption | simpa using ‹_›)] <;> rfl) | (rw [fRead_good (by first | assumption | simpa using ‹_›)] <;> rfl)))
  · -- F
    refine VC.skip ?_
    refine outN ?_
    refine VC.rs ?_
    refine VO.mv ?_
    refine VO.mv ?_
    refine VO.mv ?_
    obtain ⟨A4, hA4, hs4⟩ := h0.sub' 1 (((fWhole d0).1).toNat) (((fWhole d0).2.1).toNat) rfl bd bd
    refine VO.y rfl (.slI (((fWhole d0).1).toNat) (((fWhole d0).2.1).toNat) A4 rfl rfl rfl tsl97 bd bd hA4 bd bd) ?_
    refine VO.callN 105 rfl fnOk133 rfl (fun W hW => cloneB_ok W (Rd.mono hs4 (hW.at (i := 0) rfl)) bd) (fun v5 m5 hv5 => ?_)
    obtain ⟨s5_0, rfl, f5_0⟩ := hv5
    obtain ⟨A5_0, c5_0, eq5_0, l5_0, k5_0⟩ := f5_0.slice
    subst eq5_0
    simp only [maxLen] at k5_0
    refine VO.mv ?_
    refine VO.as ?_
    refine VO.as ?_
    refine VO.as ?_
    refine VO.k8 0 2 3 4 5 6 7 15 ?_
    refine VC.ret ?_
    refine ⟨_, _, res_run (rs := [.tmp 2, .tmp 3, .tmp 4]) rfl (.tmp rfl (.tmp rfl (.tmp rfl .nil))), fun W_ hI => out_of (l := [m5]) hI [105] rfl rfl (mle_refl _) (fun hS_ => ?_)⟩
    dsimp only [packV]
    have he0 : ((fRead d0).1 : Ty.Den (.sl .byte)) = ((d0.take (((fWhole d0).2.1).toNat)).drop (((fWhole d0).1).toNat)) := by first | rfl | (first | (rw [fRead_bad (by first | assumption | simpa using ‹_›)] <;> rfl) | (rw [fRead_good (by first | assumption | simpa using ‹_›)] <;> rfl))
    refine ⟨Value.slice A5_0 (((d0.take (((fWhole d0).2.1).toNat)).drop (((fWhole d0).1).toNat)).length) (c5_0), ?_, ?_⟩
    rotate_left
    · rw [he0]; exact (Ow.up (OwnL.ow (Ow.ownl f5_0 rfl mnil) rfl) (hS_.1 _ (.head _)))
    all_goals (first | rfl | (first | (rw [fRead_bad (by first | assumption | simpa using ‹_›)] <;> rfl) | (rw [fRead_good (by first | assumption | simpa using ‹_›)] <;> rfl)))
abbrev Tdiskstep : Ty := .pair (.int .i64) (.pair (.int .i64) (.pair (.sl .byte) (.int .i64)))
abbrev Ddiskstep := Int × Int × (List UInt8) × Int
instance decdiskstep : DecidableEq Ddiskstep := (@instDecidableEqProd _ _ inferInstance (@instDecidableEqProd _ _ inferInstance (@instDecidableEqProd _ _ inferInstance inferInstance)))
theorem open_diskstep {m : Mem} {cs : List Value} {x0 : Int} {x1 : Int} {x2 : List UInt8} {x3 : Int} (h : Rd Tdiskstep m cs (x0, x1, x2, x3)) : ∃ (A2 : Option Addr), ∃ (c2 : Nat), cs = [(.int .i64 x0 : Value), .int .i64 x1, .slice A2 x2.length c2, .int .i64 x3] ∧ inK .i64 x0 ∧ inK .i64 x1 ∧ Rd (.sl .byte) m [.slice A2 x2.length c2] x2 ∧ inK .i64 x3 := by
  obtain ⟨p1, q1, rfl, u1, w1⟩ := Rd.pair h
  obtain ⟨rfl, z2⟩ := (show _ = _ ∧ _ from u1)
  obtain ⟨p3, q3, rfl, u3, w3⟩ := Rd.pair w1
  obtain ⟨rfl, z4⟩ := (show _ = _ ∧ _ from u3)
  obtain ⟨p5, q5, rfl, u5, w5⟩ := Rd.pair w3
  have z6 := u5
  obtain ⟨A6, c6, rfl, _⟩ := Rd.slice1 u5
  obtain ⟨rfl, z7⟩ := (show _ = _ ∧ _ from w5)
  exact ⟨A6, c6, rfl, z2, z4, z6, z7⟩
abbrev TdiskDisk : Ty := .pair .bool (.pair .bool (.pair .bool (.pair (.int .i64) (.pair (.int .i64) (.pair (.pair (.sl .byte) (.pair (.sl .byte) (.pair (.sl .byte) (.sl .byte)))) (.sl Tdiskstep))))))
abbrev DdiskDisk := Bool × Bool × Bool × Int × Int × ((List UInt8) × (List UInt8) × (List UInt8) × (List UInt8)) × (List Ddiskstep)
instance decdiskDisk : DecidableEq DdiskDisk := (@instDecidableEqProd _ _ inferInstance (@instDecidableEqProd _ _ inferInstance (@instDecidableEqProd _ _ inferInstance (@instDecidableEqProd _ _ inferInstance (@instDecidableEqProd _ _ inferInstance (@instDecidableEqProd _ _ (@instDecidableEqProd _ _ inferInstance (@instDecidableEqProd _ _ inferInstance (@instDecidableEqProd _ _ inferInstance inferInstance))) inferInstance))))))
theorem openO_diskDisk {m : Mem} {cs : List Value} {x0 : Bool} {x1 : Bool} {x2 : Bool} {x3 : Int} {x4 : Int} {x5 : List UInt8} {x6 : List UInt8} {x7 : List UInt8} {x8 : List UInt8} {x9 : List Ddiskstep} (h : Ow TdiskDisk m cs (x0, x1, x2, x3, x4, (x5, x6, x7, x8), x9)) : ∃ (A5 : Option Addr), ∃ (c5 : Nat), ∃ (A6 : Option Addr), ∃ (c6 : Nat), ∃ (A7 : Option Addr), ∃ (c7 : Nat), ∃ (A8 : Option Addr), ∃ (c8 : Nat), ∃ (A9 : Option Addr), ∃ (c9 : Nat), ∃ (n5 : Mem), ∃ (n6 : Mem), ∃ (n7 : Mem), ∃ (n8 : Mem), ∃ (n9 : Mem), cs = [(.bool x0 : Value), .bool x1, .bool x2, .int .i64 x3, .int .i64 x4, .slice A5 x5.length c5, .slice A6 x6.length c6, .slice A7 x7.length c7, .slice A8 x8.length c8, .slice A9 x9.length c9] ∧ Seps m [n5, n6, n7, n8, n9] ∧ inK .i64 x3 ∧ inK .i64 x4 ∧ Ow (.sl .byte) n5 [.slice A5 x5.length c5] x5 ∧ Ow (.sl .byte) n6 [.slice A6 x6.length c6] x6 ∧ Ow (.sl .byte) n7 [.slice A7 x7.length c7] x7 ∧ Ow (.sl .byte) n8 [.slice A8 x8.length c8] x8 ∧ Ow (.sl Tdiskstep) n9 [.slice A9 x9.length c9] x9 := by
  obtain ⟨p1, q1, ma1, mb1, rfl, dj1, la1, lb1, u1, w1⟩ := Ow.pair h
  obtain rfl := (show _ = _ from u1)
  obtain ⟨p3, q3, ma3, mb3, rfl, dj3, la3, lb3, u3, w3⟩ := Ow.pair w1
  obtain rfl := (show _ = _ from u3)
  obtain ⟨p5, q5, ma5, mb5, rfl, dj5, la5, lb5, u5, w5⟩ := Ow.pair w3
  obtain rfl := (show _ = _ from u5)
  obtain ⟨p7, q7, ma7, mb7, rfl, dj7, la7, lb7, u7, w7⟩ := Ow.pair w5
  obtain ⟨rfl, z8⟩ := (show _ = _ ∧ _ from u7)
  obtain ⟨p9, q9, ma9, mb9, rfl, dj9, la9, lb9, u9, w9⟩ := Ow.pair w7
  obtain ⟨rfl, z10⟩ := (show _ = _ ∧ _ from u9)
  obtain ⟨p11, q11, ma11, mb11, rfl, dj11, la11, lb11, u11, w11⟩ := Ow.pair w9
  obtain ⟨p12, q12, ma12, mb12, rfl, dj12, la12, lb12, u12, w12⟩ := Ow.pair u11
  have z13 := u12
  obtain ⟨A13, c13, rfl, _⟩ := Ow.slice1 u12
  obtain ⟨p14, q14, ma14, mb14, rfl, dj14, la14, lb14, u14, w14⟩ := Ow.pair w12
  have z15 := u14
  obtain ⟨A15, c15, rfl, _⟩ := Ow.slice1 u14
  obtain ⟨p16, q16, ma16, mb16, rfl, dj16, la16, lb16, u16, w16⟩ := Ow.pair w14
  have z17 := u16
  obtain ⟨A17, c17, rfl, _⟩ := Ow.slice1 u16
  have z18 := w16
  obtain ⟨A18, c18, rfl, _⟩ := Ow.slice1 w16
  have z19 := w11
  obtain ⟨A19, c19, rfl, _⟩ := Ow.slice1 w11
  exact ⟨A13, c13, A15, c15, A17, c17, A18, c18, A19, c19, _, _, _, _, _, rfl, (Seps.app dj1 la1 lb1 (Seps.nil _) (Seps.app dj3 la3 lb3 (Seps.nil _) (Seps.app dj5 la5 lb5 (Seps.nil _) (Seps.app dj7 la7 lb7 (Seps.nil _) (Seps.app dj9 la9 lb9 (Seps.nil _) (Seps.app dj11 la11 lb11 (Seps.app dj12 la12 lb12 (Seps.one (mle_refl _)) (Seps.app dj14 la14 lb14 (Seps.one (mle_refl _)) (Seps.app dj16 la16 lb16 (Seps.one (mle_refl _)) (Seps.one (mle_refl _))))) (Seps.one (mle_refl _)))))))), z8, z10, z13, z15, z17, z18, z19⟩
theorem mkO_diskDisk {m : Mem} {n5 n6 n7 n8 n9 : Mem} (x0 : Bool) (x1 : Bool) (x2 : Bool) (x3 : Int) (x4 : Int) (x5 : List UInt8) (x6 : List UInt8) (x7 : List UInt8) (x8 : List UInt8) (x9 : List Ddiskstep) (hS : Seps m [n5, n6, n7, n8, n9]) (h3 : inK .i64 x3) (h4 : inK .i64 x4) {v5 : Value} (h5 : Ow (.sl .byte) n5 [v5] x5) {v6 : Value} (h6 : Ow (.sl .byte) n6 [v6] x6) {v7 : Value} (h7 : Ow (.sl .byte) n7 [v7] x7) {v8 : Value} (h8 : Ow (.sl .byte) n8 [v8] x8) {v9 : Value} (h9 : Ow (.sl Tdiskstep) n9 [v9] x9) : Ow TdiskDisk m [.bool x0, .bool x1, .bool x2, .int .i64 x3, .int .i64 x4, v5, v6, v7, v8, v9] (x0, x1, x2, x3, x4, (x5, x6, x7, x8), x9) := by
  obtain ⟨e1, la1, lb1, Sa1, Sb1⟩ := Seps.cut (l := []) (r := [n5, n6, n7, n8, n9]) hS
  obtain ⟨e2, la2, lb2, Sa2, Sb2⟩ := Seps.cut (l := []) (r := [n5, n6, n7, n8, n9]) Sb1
  obtain ⟨e3, la3, lb3, Sa3, Sb3⟩ := Seps.cut (l := []) (r := [n5, n6, n7, n8, n9]) Sb2
  obtain ⟨e4, la4, lb4, Sa4, Sb4⟩ := Seps.cut (l := []) (r := [n5, n6, n7, n8, n9]) Sb3
  obtain ⟨e5, la5, lb5, Sa5, Sb5⟩ := Seps.cut (l := []) (r := [n5, n6, n7, n8, n9]) Sb4
  obtain ⟨e6, la6, lb6, Sa6, Sb6⟩ := Seps.cut (l := [n5, n6, n7, n8]) (r := [n9]) Sb5
  obtain ⟨e7, la7, lb7, Sa7, Sb7⟩ := Seps.cut (l := [n5]) (r := [n6, n7, n8]) Sa6
  obtain ⟨e8, la8, lb8, Sa8, Sb8⟩ := Seps.cut (l := [n6]) (r := [n7, n8]) Sb7
  obtain ⟨e9, la9, lb9, Sa9, Sb9⟩ := Seps.cut (l := [n7]) (r := [n8]) Sb8
  exact (Ow.mkPair (c1 := [_]) e1 la1 lb1 (show Ow .bool _ [_] _ from rfl) (Ow.mkPair (c1 := [_]) e2 la2 lb2 (show Ow .bool _ [_] _ from rfl) (Ow.mkPair (c1 := [_]) e3 la3 lb3 (show Ow .bool _ [_] _ from rfl) (Ow.mkPair (c1 := [_]) e4 la4 lb4 (show Ow (.int .i64) _ [_] _ from ⟨rfl, h3⟩) (Ow.mkPair (c1 := [_]) e5 la5 lb5 (show Ow (.int .i64) _ [_] _ from ⟨rfl, h4⟩) (Ow.mkPair (c1 := [_, _, _, _]) e6 la6 lb6 (Ow.mkPair (c1 := [_]) e7 la7 lb7 (h5.up (Sa7.1 _ (.head _))) (Ow.mkPair (c1 := [_]) e8 la8 lb8 (h6.up (Sa8.1 _ (.head _))) (Ow.mkPair (c1 := [_]) e9 la9 lb9 (h7.up (Sa9.1 _ (.head _))) (h8.up (Sb9.1 _ (.head _)))))) (h9.up (Sb6.1 _ (.head _)))))))))
theorem openP_diskDisk {m : Mem} {cs : List Value} {g : Nat} {x0 : Bool} {x1 : Bool} {x2 : Bool} {x3 : Int} {x4 : Int} {x5 : List UInt8} {x6 : List UInt8} {x7 : List UInt8} {x8 : List UInt8} {x9 : List Ddiskstep} (h : Ow (.ptr TdiskDisk) m cs (g, (x0, x1, x2, x3, x4, (x5, x6, x7, x8), x9))) : ∃ (E : TypeId), ∃ (A5 : Option Addr), ∃ (c5 : Nat), ∃ (A6 : Option Addr), ∃ (c6 : Nat), ∃ (A7 : Option Addr), ∃ (c7 : Nat), ∃ (A8 : Option Addr), ∃ (c8 : Nat), ∃ (A9 : Option Addr), ∃ (c9 : Nat), ∃ (n5 : Mem), ∃ (n6 : Mem), ∃ (n7 : Mem), ∃ (n8 : Mem), ∃ (n9 : Mem), cs = [.pointer (some ⟨g, 0, none⟩)] ∧ Seps m [mone g (.cells [(.bool x0 : Value), .bool x1, .bool x2, .int .i64 x3, .int .i64 x4, .slice A5 x5.length c5, .slice A6 x6.length c6, .slice A7 x7.length c7, .slice A8 x8.length c8, .slice A9 x9.length c9].toArray E (0, 0)), n5, n6, n7, n8, n9] ∧ inK .i64 x3 ∧ inK .i64 x4 ∧ Ow (.sl .byte) n5 [.slice A5 x5.length c5] x5 ∧ Ow (.sl .byte) n6 [.slice A6 x6.length c6] x6 ∧ Ow (.sl .byte) n7 [.slice A7 x7.length c7] x7 ∧ Ow (.sl .byte) n8 [.slice A8 x8.length c8] x8 ∧ Ow (.sl Tdiskstep) n9 [.slice A9 x9.length c9] x9 := by
  obtain ⟨rfl, rc, E, m1, hd, l0, l1, h1⟩ := Ow.opnP h
  obtain ⟨A5, c5, A6, c6, A7, c7, A8, c8, A9, c9, n5, n6, n7, n8, n9, rfl, hS, f3, f4, f5, f6, f7, f8, f9⟩ := openO_diskDisk h1
  exact ⟨E, A5, c5, A6, c6, A7, c7, A8, c8, A9, c9, n5, n6, n7, n8, n9, rfl, Seps.app hd l0 l1 (Seps.one (mle_refl _)) hS, f3, f4, f5, f6, f7, f8, f9⟩
theorem mkP_diskDisk {m : Mem} {g : Nat} {E : TypeId} {n5 n6 n7 n8 n9 : Mem}{v5 : Value}{v6 : Value}{v7 : Value}{v8 : Value}{v9 : Value} (x0 : Bool) (x1 : Bool) (x2 : Bool) (x3 : Int) (x4 : Int) (x5 : List UInt8) (x6 : List UInt8) (x7 : List UInt8) (x8 : List UInt8) (x9 : List Ddiskstep) (hS : Seps m [mone g (.cells [.bool x0, .bool x1, .bool x2, .int .i64 x3, .int .i64 x4, v5, v6, v7, v8, v9].toArray E (0, 0)), n5, n6, n7, n8, n9]) (h3 : inK .i64 x3) (h4 : inK .i64 x4) (h5 : Ow (.sl .byte) n5 [v5] x5) (h6 : Ow (.sl .byte) n6 [v6] x6) (h7 : Ow (.sl .byte) n7 [v7] x7) (h8 : Ow (.sl .byte) n8 [v8] x8) (h9 : Ow (.sl Tdiskstep) n9 [v9] x9) : Ow (.ptr TdiskDisk) m [.pointer (some ⟨g, 0, none⟩)] (g, (x0, x1, x2, x3, x4, (x5, x6, x7, x8), x9)) :=
  Ow.clsP hS fun hS => mkO_diskDisk x0 x1 x2 x3 x4 x5 x6 x7 x8 x9 hS h3 h4 h5 h6 h7 h8 h9
abbrev Dref05Raw := Int × Bool × Int × (List UInt8)
instance decref05Raw : DecidableEq Dref05Raw := (@instDecidableEqProd _ _ inferInstance (@instDecidableEqProd _ _ inferInstance (@instDecidableEqProd _ _ inferInstance inferInstance)))
abbrev Dref05Disk := Bool × ((List UInt8) × (List UInt8) × (List UInt8) × (List UInt8)) × (List Dref05Raw) × Bool × Bool × Int × Int
instance decref05Disk : DecidableEq Dref05Disk := (@instDecidableEqProd _ _ inferInstance (@instDecidableEqProd _ _ (@instDecidableEqProd _ _ inferInstance (@instDecidableEqProd _ _ inferInstance (@instDecidableEqProd _ _ inferInstance inferInstance))) (@instDecidableEqProd _ _ inferInstance (@instDecidableEqProd _ _ inferInstance (@instDecidableEqProd _ _ inferInstance (@instDecidableEqProd _ _ inferInstance inferInstance))))))
abbrev Dlaw05Act := Int × Int × Int × Int × (List UInt8)
instance declaw05Act : DecidableEq Dlaw05Act := (@instDecidableEqProd _ _ inferInstance (@instDecidableEqProd _ _ inferInstance (@instDecidableEqProd _ _ inferInstance (@instDecidableEqProd _ _ inferInstance inferInstance))))
abbrev Dur := Bytes × Bytes × Bytes × Bytes
abbrev DStep := Ddiskstep
abbrev DDisk := DdiskDisk
def getF (q : Dur) (f : Int) : Bytes := if f = 0 then q.1 else if f = 1 then q.2.1 else if f = 2 then q.2.2.1 else q.2.2.2
def setF (q : Dur) (f : Int) (b : Bytes) : Dur := if f = 0 then (b, q.2) else if f = 1 then (q.1, b, q.2.2) else if f = 2 then (q.1, q.2.1, b, q.2.2.2) else (q.1, q.2.1, q.2.2.1, b)
def doneB (b : Bytes) (s : DStep) : Bytes := if s.1 = 0 then b ++ s.2.2.1 else if s.1 = 1 then b.take s.2.2.2.toNat else b
def stepQ (q : Dur) (s : DStep) : Dur := setF q s.2.1 (doneB (getF q s.2.1) s)
def play (q : Dur) (l : List DStep) : Dur := l.foldl stepQ q
def heldStep (f : Int) (b : Bytes) (s : DStep) : Bytes := if s.2.1 = f then doneB b s else b
def heldB (q : Dur) (l : List DStep) (f : Int) : Bytes := l.foldl (heldStep f) (getF q f)
def inF (f : Int) : Prop := 0 ≤ f ∧ f < 4
instance (f : Int) : Decidable (inF f) := by unfold inF; infer_instance
theorem get_set {q : Dur} {f g : Int} {b : Bytes} (hf : inF f) (hg : inF g) : getF (setF q f b) g = if f = g then b else getF q g := by
  obtain ⟨h0, h1⟩ := hf; obtain ⟨h2, h3⟩ := hg
  obtain rfl | rfl | rfl | rfl : f = 0 ∨ f = 1 ∨ f = 2 ∨ f = 3 := by omega
  all_goals obtain rfl | rfl | rfl | rfl : g = 0 ∨ g = 1 ∨ g = 2 ∨ g = 3 := by omega
  all_goals rfl
/-- A step that may be pending. -/
def goodSt (q : Dur) (s : DStep) : Prop := (s.1 = 0 ∨ s.1 = 1) ∧ inF s.2.1 ∧ (s.1 = 0 → 1 ≤ s.2.2.1.length ∧ s.2.2.1.length ≤ 64) ∧ (s.1 = 1 → 0 ≤ s.2.2.2 ∧ s.2.2.2 ≤ (getF q s.2.1).length)
def goodL : Dur → List DStep → Prop
  | _, [] => True
  | q, s :: r => goodSt q s ∧ goodL (stepQ q s) r
theorem goodL_app : ∀ {l r : List DStep} {q : Dur}, goodL q (l ++ r) ↔ goodL q l ∧ goodL (play q l) r
  | [], r, q => by simp [goodL, play]
  | s :: l, r, q => by
    show goodSt q s ∧ goodL (stepQ q s) (l ++ r) ↔ (goodSt q s ∧ goodL (stepQ q s) l) ∧ goodL (play (stepQ q s) l) r
    rw [goodL_app (l := l), and_assoc]
theorem play_held : ∀ {l : List DStep} {q : Dur} {f : Int}, goodL q l → inF f → getF (play q l) f = heldB q l f
  | [], q, f, _, _ => rfl
  | s :: l, q, f, h, hf => by
    show getF (play (stepQ q s) l) f = _
    rw [play_held h.2 hf]
    show l.foldl (heldStep f) (getF (stepQ q s) f) = l.foldl (heldStep f) (heldStep f (getF q f) s)
    rw [stepQ, get_set h.1.2.1 hf]
    unfold heldStep
    split
    · rename_i he; rw [he]
    · rfl
def sizeQ (q : Dur) : Nat := q.1.length + q.2.1.length + q.2.2.1.length + q.2.2.2.length
def sizeL (l : List DStep) : Nat := (l.map fun s => s.2.2.1.length).sum
theorem sizeL_cons (s : DStep) (l : List DStep) : sizeL (s :: l) = s.2.2.1.length + sizeL l := by simp [sizeL]
theorem sizeL_app (l r : List DStep) : sizeL (l ++ r) = sizeL l + sizeL r := by simp [sizeL]
theorem getF_size (q : Dur) (f : Int) : (getF q f).length ≤ sizeQ q := by unfold getF sizeQ; split <;> (try split) <;> (try split) <;> omega
theorem doneB_size (b : Bytes) (s : DStep) : (doneB b s).length ≤ b.length + s.2.2.1.length := by
  unfold doneB
  split
  · simp
  · split
    · simp only [List.length_take]; omega
    · omega
theorem foldl_heldStep_size (f : Int) : ∀ (l : List DStep) (b : Bytes), (l.foldl (heldStep f) b).length ≤ b.length + sizeL l
  | [], b => by simp [sizeL]
  | s :: l, b => by
    have h1 := foldl_heldStep_size f l (heldStep f b s)
    have h2 : (heldStep f b s).length ≤ b.length + s.2.2.1.length := by
      unfold heldStep
      split
      · exact doneB_size b s
      · omega
    rw [sizeL_cons, List.foldl_cons]; omega
theorem heldB_size (q : Dur) (l : List DStep) (f : Int) : (heldB q l f).length ≤ sizeQ q + sizeL l := by
  have := foldl_heldStep_size f l (getF q f)
  have := getF_size q f
  unfold heldB; omega
def okD (d : DDisk) : Prop := goodL d.2.2.2.2.2.1 d.2.2.2.2.2.2 ∧ 0 ≤ d.2.2.2.1 ∧ 0 ≤ d.2.2.2.2.1
def wD (d : DDisk) : Nat := sizeQ d.2.2.2.2.2.1 + sizeL d.2.2.2.2.2.2 + d.2.2.2.2.2.2.length + d.2.2.2.2.1.toNat
def newD : DDisk := (true, false, false, 0, 0, ([], [], [], []), [])
theorem okD_new : okD newD := ⟨trivial, Int.le_refl _, Int.le_refl _⟩
def wrongD (d : DDisk) : Int := if d.1 = false then 1 else if d.2.1 = true then 6 else 0
def burnD (d : DDisk) : DDisk × Bool := if d.2.2.1 = true then (if d.2.2.2.1 = 0 then ((d.1, true, d.2.2), false) else ((d.1, d.2.1, d.2.2.1, d.2.2.2.1 - 1, d.2.2.2.2.1 + 1, d.2.2.2.2.2), true)) else ((d.1, d.2.1, d.2.2.1, d.2.2.2.1, d.2.2.2.2.1 + 1, d.2.2.2.2.2), true)
def addP (d : DDisk) (s : DStep) : DDisk := (d.1, d.2.1, d.2.2.1, d.2.2.2.1, d.2.2.2.2.1, d.2.2.2.2.2.1, d.2.2.2.2.2.2 ++ [s])
theorem getF0 {q : Dur} {f : Int} (h : f = 0) : getF q f = q.1 := by subst h; rfl
theorem getF1 {q : Dur} {f : Int} (h : f = 1) : getF q f = q.2.1 := by subst h; rfl
theorem getF2 {q : Dur} {f : Int} (h : f = 2) : getF q f = q.2.2.1 := by subst h; rfl
theorem getF3 {q : Dur} {f : Int} (h : f = 3) : getF q f = q.2.2.2 := by subst h; rfl
def settleD (d : DDisk) (k : Nat) : DDisk := (d.1, d.2.1, d.2.2.1, d.2.2.2.1, d.2.2.2.2.1, play d.2.2.2.2.2.1 (d.2.2.2.2.2.2.take k), d.2.2.2.2.2.2.drop k)
theorem drop_split {α : Type} {l : List α} {k : Nat} {x : α} (h : l[k]? = some x) : l = l.take k ++ x :: l.drop (k + 1) := by
  obtain ⟨h1, h2⟩ := List.getElem?_eq_some_iff.1 h
  rw [← h2, ← List.drop_eq_getElem_cons h1, List.take_append_drop]
section
variable {q : Dur} {l : List DStep} {f : Int} {b : Bytes} {k : Nat} {s : DStep}
theorem held_next (hb : b = heldB q (l.take k) f) (hs : l[k]? = some s) : heldStep f b s = heldB q (l.take (k + 1)) f := by
  rw [hb, heldB, heldB, List.take_add_one, hs, List.foldl_append]; rfl
theorem held_yes (hb : b = heldB q (l.take k) f) (hs : l[k]? = some s) (h : s.2.1 = f) : doneB b s = heldB q (l.take (k + 1)) f := by
  rw [← held_next hb hs, heldStep, if_pos h]
theorem held_no (hb : b = heldB q (l.take k) f) (hs : l[k]? = some s) (h : ¬ s.2.1 = f) : b = heldB q (l.take (k + 1)) f := by
  rw [← held_next hb hs, heldStep, if_neg h]
theorem good_at (hg : goodL q l) (hs : l[k]? = some s) : goodSt (play q (l.take k)) s ∧ goodL q (l.take k) := by
  rw [drop_split hs, goodL_app] at hg
  exact ⟨hg.2.1, hg.1⟩
theorem held_cut (hg : goodL q l) (hb : b = heldB q (l.take k) f) (hs : l[k]? = some s) (hf : inF f) (h : s.2.1 = f) : s.1 = 1 → 0 ≤ s.2.2.2 ∧ s.2.2.2 ≤ b.length := by
  obtain ⟨h1, h2⟩ := good_at hg hs
  intro h3
  have := h1.2.2.2 h3
  rw [h, play_held h2 hf, ← hb] at this
  exact this
theorem sizeL_take (hs : l[k]? = some s) : sizeL (l.take k) + s.2.2.1.length ≤ sizeL l := by
  conv => rhs; rw [drop_split hs]
  rw [sizeL_app, sizeL_cons]; omega
theorem held_room (hb : b = heldB q (l.take k) f) (hs : l[k]? = some s) : b.length + s.2.2.1.length ≤ sizeQ q + sizeL l := by
  have h1 := heldB_size q (l.take k) f
  have h2 := sizeL_take hs
  rw [hb]; omega
end
theorem burn_ok {d : DDisk} (h : okD d) : okD (burnD d).1 := by
  obtain ⟨h1, h2, h3⟩ := h
  unfold burnD
  split
  · split
    · exact ⟨h1, h2, h3⟩
    · exact ⟨h1, by dsimp only; omega, by dsimp only; omega⟩
  · exact ⟨h1, h2, by dsimp only; omega⟩
theorem burn_same (d : DDisk) : (burnD d).1.1 = d.1 ∧ (burnD d).1.2.2.2.2.2 = d.2.2.2.2.2 := by
  unfold burnD
  split
  · split <;> exact ⟨rfl, rfl⟩
  · exact ⟨rfl, rfl⟩
theorem add_ok {d : DDisk} {s : DStep} (h : okD d) (hs : goodSt (play d.2.2.2.2.2.1 d.2.2.2.2.2.2) s) : okD (addP d s) :=
  ⟨goodL_app.2 ⟨h.1, hs, trivial⟩, h.2⟩
theorem settle_ok {d : DDisk} (k : Nat) (h : okD d) : okD (settleD d k) := by
  obtain ⟨h1, h2⟩ := h
  rw [← List.take_append_drop k d.2.2.2.2.2.2, goodL_app] at h1
  exact ⟨h1.2, h2⟩
def writeGo : Nat → DDisk → Int → Bytes → DDisk × Int
  | 0, d, _, _ => (d, 0)
  | n + 1, d, f, b => if b.length = 0 then (d, 0) else if (burnD d).2 = true then writeGo n (addP (burnD d).1 (0, f, b.take 64, 0)) f (b.drop 64) else ((burnD d).1, 6)
def dWrite (d : DDisk) (f : Int) (b : Bytes) : DDisk × Int := if ¬ wrongD d = 0 then (d, wrongD d) else if ¬ inF f then (d, 2) else writeGo b.length d f b
section
variable {d d' : DDisk} {f : Int} {b : Bytes} {n m : Nat} {p : DDisk × Int}
theorem step_ok (h : okD d) (hf : inF f) (hb : 0 < b.length) (hm : m = min b.length 64) : okD (addP (burnD d).1 (0, f, b.take m, 0)) :=
  add_ok (burn_ok h) ⟨.inl rfl, hf, fun _ => by simp only [List.length_take]; omega, fun h => by cases h⟩
end
def dCut (d : DDisk) (f n : Int) : DDisk × Int := if ¬ wrongD d = 0 then (d, wrongD d) else if ¬ inF f ∨ n < 0 ∨ ((heldB d.2.2.2.2.2.1 d.2.2.2.2.2.2 f).length : Int) < n then (d, 2) else
  if (burnD d).2 = true then (addP (burnD d).1 (1, f, [], n), 0) else ((burnD d).1, 6)
theorem cut_ok {d : DDisk} {f n : Int} (h : okD d) : okD (dCut d f n).1 := by
  unfold dCut; split
  · exact h
  · split
    · exact h
    · rename_i h1
      have hf : inF f := Decidable.byContradiction fun q => h1 (.inl q)
      have hn : ¬ n < 0 := fun q => h1 (.inr (.inl q))
      have hl : ¬ ((heldB d.2.2.2.2.2.1 d.2.2.2.2.2.2 f).length : Int) < n := fun q => h1 (.inr (.inr q))
      split
      · refine add_ok (burn_ok h) ⟨.inr rfl, hf, fun h => (by cases h), fun _ => ?_⟩
        rw [(burn_same d).2]
        rw [play_held h.1 hf]
        dsimp only; omega
      · exact burn_ok h
def dSync (d : DDisk) : DDisk × Int := if ¬ wrongD d = 0 then (d, wrongD d) else if (burnD d).2 = true then (settleD (burnD d).1 (burnD d).1.2.2.2.2.2.2.length, 0) else ((burnD d).1, 6)
theorem sync_ok {d : DDisk} (h : okD d) : okD (dSync d).1 := by
  unfold dSync; split
  · exact h
  · split
    · exact settle_ok _ (burn_ok h)
    · exact burn_ok h
def dRead (d : DDisk) (f : Int) : Bytes × Int := if ¬ wrongD d = 0 then ([], wrongD d) else if ¬ inF f then ([], 2) else (heldB d.2.2.2.2.2.1 d.2.2.2.2.2.2 f, 0)
theorem read_size (d : DDisk) (f : Int) : (dRead d f).1.length ≤ wD d := by
  have := heldB_size d.2.2.2.2.2.1 d.2.2.2.2.2.2 f
  unfold dRead; split
  · exact Nat.zero_le _
  · split
    · exact Nat.zero_le _
    · dsimp only [wD]; omega
def dFuse (d : DDisk) (n : Int) : DDisk × Int := if ¬ wrongD d = 0 then (d, wrongD d) else if n < 0 then (d, 2) else ((d.1, d.2.1, true, n, d.2.2.2.2), 0)
theorem fuse_ok {d : DDisk} {n : Int} (h : okD d) : okD (dFuse d n).1 := by
  unfold dFuse; split
  · exact h
  · split
    · exact h
    · exact ⟨h.1, by dsimp only; omega, h.2.2⟩
def tornQ (d : DDisk) (t : Int) : Dur := match d.2.2.2.2.2.2 with
  | [] => d.2.2.2.2.2.1
  | s :: _ => if s.1 = 0 then stepQ d.2.2.2.2.2.1 (s.1, s.2.1, s.2.2.1.take (min t ((s.2.2.1.length : Int) - 1)).toNat, s.2.2.2) else d.2.2.2.2.2.1
def dStart (d : DDisk) (k t : Int) : DDisk × Int := if d.1 = false then (d, 1) else if d.2.1 = false ∨ k < 0 ∨ t < 0 then (d, 2) else
  ((d.1, false, false, 0, d.2.2.2.2.1, tornQ (settleD d (min k d.2.2.2.2.2.2.length).toNat) t, []), 0)
theorem start_ok {d : DDisk} {k t : Int} (h : okD d) : okD (dStart d k t).1 := by
  unfold dStart; split
  · exact h
  · split
    · exact h
    · exact ⟨trivial, Int.le_refl _, h.2.2⟩
def dPending (d : DDisk) : Int := if d.1 = false then 0 else d.2.2.2.2.2.2.length
theorem write_go {d : DDisk} {f : Int} {b : Bytes} (h : ¬ ¬ wrongD d = 0) (h2 : ¬ ¬ inF f) : dWrite d f b = writeGo b.length d f b := by unfold dWrite; rw [if_neg h, if_neg h2]
theorem sync_off {d : DDisk} (h : ¬ ¬ wrongD d = 0) (h4 : ¬ (burnD d).2 = true) : dSync d = ((burnD d).1, 6) := by unfold dSync; rw [if_neg h, if_neg h4]
theorem sync_go {d : DDisk} (h : ¬ ¬ wrongD d = 0) (h4 : ¬ ¬ (burnD d).2 = true) : dSync d = (settleD (burnD d).1 (burnD d).1.2.2.2.2.2.2.length, 0) := by unfold dSync; rw [if_neg h, if_pos (Decidable.not_not.1 h4)]
abbrev DAct := Dlaw05Act
def smallA (l : List DAct) : Prop := (∀ a ∈ l, a.2.2.2.2.length ≤ 400) ∧ l.length ≤ 100
instance (l : List DAct) : Decidable (smallA l) := by unfold smallA; infer_instance
structure Fz (n : Int) (d : DDisk) : Prop where
  ok : okD d
  made : d.1 = true
  has : d.2.2.1 = true
  sum : d.2.2.2.2.1 + d.2.2.2.1 = n
  off : d.2.1 = true → d.2.2.2.1 = 0
theorem Fz.burn {n : Int} {d : DDisk} (h : Fz n d) (ho : d.2.1 = false) : Fz n (burnD d).1 ∧ ((burnD d).2 = true ↔ (burnD d).1.2.1 = false) ∧ ((burnD d).2 = true → (burnD d).1.2.1 = false) := by
  have hk := burn_ok h.ok
  obtain ⟨h1, h2, h3, h4, h5⟩ := h
  unfold burnD at hk ⊢
  rw [if_pos h3] at hk ⊢
  split
  · rename_i h0
    rw [if_pos h0] at hk
    exact ⟨⟨hk, h2, h3, h4, fun _ => h0⟩, by simp, by simp⟩
  · rename_i h0
    rw [if_neg h0] at hk
    exact ⟨⟨hk, h2, h3, by dsimp only; omega, fun q => absurd (ho.symm.trans q) (by decide)⟩, by simp [ho], fun _ => ho⟩
theorem Fz.add {n : Int} {d : DDisk} {s : DStep} (h : Fz n d) (hk : okD (addP d s)) : Fz n (addP d s) := ⟨hk, h.made, h.has, h.sum, h.off⟩
/-- What a call leaves: e the answer, d' the disk behind it. -/
structure Fs (n : Int) (d d' : DDisk) (e : Int) : Prop where
  fz : Fz n d'
  off : e = 6 ↔ d'.2.1 = true
  arg : e = 2 → d' = d
theorem Fs.wrong {n : Int} {d : DDisk} (h : Fz n d) (hw : ¬ wrongD d = 0) : Fs n d d (wrongD d) := by
  have hm : ¬ d.1 = false := by rw [h.made]; decide
  unfold wrongD at hw ⊢
  rw [if_neg hm] at hw ⊢
  by_cases ho : d.2.1 = true
  · rw [if_pos ho]; exact ⟨h, by simp [ho], fun q => by cases q⟩
  · rw [if_neg ho] at hw; exact absurd rfl hw
theorem on_of {n : Int} {d : DDisk} (h : Fz n d) (hw : wrongD d = 0) : d.2.1 = false := by
  have hm : ¬ d.1 = false := by rw [h.made]; decide
  unfold wrongD at hw
  rw [if_neg hm] at hw
  by_cases ho : d.2.1 = true
  · rw [if_pos ho] at hw; cases hw
  · simpa using ho
theorem Fs.go {m : Nat} : ∀ {n : Int} {d : DDisk} {f : Int} {b : Bytes}, Fz n d → inF f → d.2.1 = false → Fs n d (writeGo m d f b).1 (writeGo m d f b).2 := by
  induction m with
  | zero => intro n d f b h _ ho; exact ⟨h, by simp [writeGo, ho], fun _ => rfl⟩
  | succ m ih =>
    intro n d f b h hf ho
    obtain ⟨k1, k2, k3⟩ := h.burn ho
    unfold writeGo
    split
    · exact ⟨h, by simp [ho], fun _ => rfl⟩
    · rename_i h0
      split
      · rename_i hb
        have e1 : b.take 64 = b.take (min b.length 64) := by
          by_cases h0 : b.length ≤ 64
          · rw [Nat.min_eq_left h0, List.take_of_length_le h0, List.take_of_length_le (Nat.le_refl _)]
          · rw [Nat.min_eq_right (by omega)]
        have hs := step_ok (m := min b.length 64) h.ok hf (by omega) rfl
        rw [← e1] at hs
        have hq := ih (b := b.drop 64) (k1.add hs) hf (k3 hb)
        refine ⟨hq.fz, hq.off, fun q => ?_⟩
        exfalso
        have : ∀ (m : Nat) (d : DDisk) (b : Bytes), (writeGo m d f b).2 = 0 ∨ (writeGo m d f b).2 = 6 := by
          intro m
          induction m with
          | zero => intro d b; exact .inl rfl
          | succ m ih => intro d b; unfold writeGo; split
                         · exact .inl rfl
                         · split
                           · exact ih _ _
                           · exact .inr rfl
        rcases this m _ (b.drop 64) with e | e <;> rw [e] at q <;> cases q
      · rename_i hb
        refine ⟨k1, ?_, fun q => by cases q⟩
        have : (burnD d).1.2.1 = true := by
          cases hc : (burnD d).1.2.1 with
          | true => rfl
          | false => exact absurd (k2.2 hc) hb
        simp [this]
theorem Fs.cut {n : Int} {d : DDisk} {f k : Int} (h : Fz n d) : Fs n d (dCut d f k).1 (dCut d f k).2 := by
  have hk := cut_ok (f := f) (n := k) h.ok
  unfold dCut at hk ⊢
  split
  · rename_i hw; exact Fs.wrong h hw
  · rename_i hw
    have ho := on_of h (Decidable.not_not.1 hw)
    obtain ⟨k1, k2, k3⟩ := h.burn ho
    split
    · exact ⟨h, by simp [ho], fun _ => rfl⟩
    · rename_i hf
      rw [if_neg hw, if_neg hf] at hk
      split
      · rename_i hb
        rw [if_pos hb] at hk
        exact ⟨k1.add hk, by show (0 : Int) = 6 ↔ (burnD d).1.2.1 = true; simp [k3 hb], fun q => by cases q⟩
      · rename_i hb
        refine ⟨k1, ?_, fun q => by cases q⟩
        have : (burnD d).1.2.1 = true := by
          cases hc : (burnD d).1.2.1 with
          | true => rfl
          | false => exact absurd (k2.2 hc) hb
        simp [this]
/-- A disk that is on, without a fuse. -/
structure Onn (d : DDisk) : Prop where
  ok : okD d
  made : d.1 = true
  on : d.2.1 = false
  has : d.2.2.1 = false
theorem onn_sync {d : DDisk} (h : Onn d) : (dSync d).2 = 0 ∧ Onn (dSync d).1 ∧ dPending (dSync d).1 = 0 := by
  have hk := sync_ok h.ok
  have hw : ¬ ¬ wrongD d = 0 := by unfold wrongD; rw [if_neg (by rw [h.made]; decide), if_neg (by rw [h.on]; decide)]; decide
  have hb : burnD d = ((d.1, d.2.1, d.2.2.1, d.2.2.2.1, d.2.2.2.2.1 + 1, d.2.2.2.2.2), true) := by unfold burnD; rw [if_neg (by rw [h.has]; decide)]
  rw [sync_go hw (by rw [hb]; simp)] at hk ⊢
  rw [hb] at hk ⊢
  refine ⟨rfl, ⟨hk, h.made, h.on, h.has⟩, ?_⟩
  show (if d.1 = false then 0 else (((d.2.2.2.2.2.2.drop d.2.2.2.2.2.2.length).length : Nat) : Int)) = 0
  simp
/-- file by file a front part -/
def leQ (p q : Dur) : Prop := ∀ f : Int, inF f → getF p f <+: getF q f
theorem leQ.trans {p q r : Dur} (h : leQ p q) (h' : leQ q r) : leQ p r := fun f hf => (h f hf).trans (h' f hf)
theorem onn_right {d : DDisk} (h : Onn d) : wrongD d = 0 := by unfold wrongD; rw [if_neg (by rw [h.made]; decide), if_neg (by rw [h.on]; decide)]
theorem onn_burn {d : DDisk} (h : Onn d) : burnD d = ((d.1, d.2.1, d.2.2.1, d.2.2.2.1, d.2.2.2.2.1 + 1, d.2.2.2.2.2), true) := by unfold burnD; rw [if_neg (by rw [h.has]; decide)]
theorem set_set {q : Dur} {f : Int} {a b : Bytes} : setF (setF q f a) f b = setF q f b := by
  unfold setF; split
  · rfl
  · split
    · rfl
    · split <;> rfl
theorem set_get {q : Dur} {f : Int} : setF q f (getF q f) = q := by
  unfold setF getF; split
  · rfl
  · split
    · rfl
    · split <;> rfl
def begB (b a : Bytes) : Prop := a.length ≤ b.length ∧ b.take a.length = a
instance (b a : Bytes) : Decidable (begB b a) := by unfold begB; infer_instance
abbrev DSection := Int × Int × (List DCommit)
instance decSection : DecidableEq DSection := (@instDecidableEqProd _ _ inferInstance (@instDecidableEqProd _ _ inferInstance inferInstance))
def hB1 (B : Bytes) : Bytes := B.drop (sN B 1048576)
def hB2 (B : Bytes) : Bytes := (hB1 B).drop (sN (hB1 B) 1048576)
abbrev DRaw := Dref05Raw
abbrev DRDisk := Dref05Disk
def stepOf (r : DRaw) : DStep := (if r.2.1 = true then 1 else 0, r.1, r.2.2.2, r.2.2.1)
def rawOf (s : DStep) : DRaw := (s.2.1, decide (s.1 = 1), s.2.2.2, s.2.2.1)
@[simp] theorem raw_step (r : DRaw) : rawOf (stepOf r) = r := by obtain ⟨f, c, t, b⟩ := r; cases c <;> rfl
theorem step_raw {s : DStep} (h : s.1 = 0 ∨ s.1 = 1) : stepOf (rawOf s) = s := by
  obtain ⟨k, f, b, t⟩ := s
  rcases h with h | h <;> (dsimp only at h; subst h; rfl)
@[simp] theorem raws_steps (l : List DRaw) : (l.map stepOf).map rawOf = l := by
  rw [List.map_map]
  conv => rhs; rw [← List.map_id l]
  congr 1; funext r; exact raw_step r
@[simp] theorem comp_rs : rawOf ∘ stepOf = id := funext raw_step
theorem steps_raws : ∀ {l : List DStep} {q : Dur}, goodL q l → (l.map rawOf).map stepOf = l
  | [], _, _ => rfl
  | s :: l, q, h => by rw [List.map_cons, List.map_cons, step_raw h.1.1, steps_raws h.2]
def fromR (r : DRDisk) : DDisk := (r.1, !r.2.2.2.1, r.2.2.2.2.1, if r.2.2.2.2.1 = true then r.2.2.2.2.2.1 else 0, r.2.2.2.2.2.2, r.2.1, r.2.2.1.map stepOf)
def toR (d : DDisk) (x : Int) : DRDisk := (d.1, d.2.2.2.2.2.1, d.2.2.2.2.2.2.map rawOf, !d.2.1, d.2.2.1, if d.2.2.1 = true then d.2.2.2.1 else x, d.2.2.2.2.1)
/-- A disk without a fuse has none left. -/
def nf (d : DDisk) : Prop := d.2.2.1 = false → d.2.2.2.1 = 0
theorem from_to {d : DDisk} {x : Int} (h : okD d) (hn : nf d) : fromR (toR d x) = d := by
  obtain ⟨m, o, f, n, c, q, l⟩ := d
  have h1 := steps_raws h.1
  unfold nf at hn
  dsimp only at h1 hn
  unfold fromR toR
  dsimp only
  rw [h1]
  cases f
  · simp [hn rfl]
  · simp
theorem nf_from (r : DRDisk) : nf (fromR r) := by
  unfold nf fromR
  dsimp only
  intro h; rw [h]; rfl
section
variable {d : DDisk}
theorem nf_fuse {n : Int} (h : nf d) : nf (dFuse d n).1 := by
  unfold dFuse; split
  · exact h
  · split
    · exact h
    · intro q; cases q
theorem nf_start {k t : Int} (h : nf d) : nf (dStart d k t).1 := by
  unfold dStart; split
  · exact h
  · split
    · exact h
    · intro _; rfl
end
/-- what the files hold -/
def curD (d : DDisk) : Dur := play d.2.2.2.2.2.1 d.2.2.2.2.2.2
theorem cur_add (d : DDisk) (s : DStep) : curD (addP d s) = stepQ (curD d) s := by
  show play d.2.2.2.2.2.1 (d.2.2.2.2.2.2 ++ [s]) = _
  rw [play, List.foldl_append]; rfl
theorem cur_burn (d : DDisk) : curD (burnD d).1 = curD d := by unfold curD; rw [(burn_same d).2]
theorem dur_burn (d : DDisk) : (burnD d).1.2.2.2.2.2.1 = d.2.2.2.2.2.1 := by rw [(burn_same d).2]
theorem made_burn (d : DDisk) : (burnD d).1.1 = d.1 := (burn_same d).1
section
variable {d : DDisk} {f n base : Int} {b : Bytes} {s : DSection}
theorem on_go (hf : inF f) : ∀ (k : Nat) {d : DDisk} {b : Bytes}, b.length ≤ k → Onn d → (writeGo k d f b).2 = 0 ∧ Onn (writeGo k d f b).1 ∧ curD (writeGo k d f b).1 = setF (curD d) f (getF (curD d) f ++ b) ∧ (writeGo k d f b).1.2.2.2.2.2.1 = d.2.2.2.2.2.1
  | 0, d, b, hk, h => by
    rw [List.eq_nil_of_length_eq_zero (Nat.le_zero.1 hk), List.append_nil, set_get]; exact ⟨rfl, h, rfl, rfl⟩
  | k + 1, d, b, hk, h => by
    unfold writeGo
    split
    · rename_i h0
      rw [List.eq_nil_of_length_eq_zero h0, List.append_nil, set_get]; exact ⟨rfl, h, rfl, rfl⟩
    · rename_i h0
      rw [if_pos (by rw [onn_burn h])]
      have e1 : b.take 64 = b.take (min b.length 64) := by
        by_cases h0 : b.length ≤ 64
        · rw [Nat.min_eq_left h0, List.take_of_length_le h0, List.take_of_length_le (Nat.le_refl _)]
        · rw [Nat.min_eq_right (by omega)]
      have hs := step_ok (m := min b.length 64) h.ok hf (by omega) rfl
      rw [← e1] at hs
      have ho : Onn (addP (burnD d).1 (0, f, b.take 64, 0)) := by
        rw [onn_burn h] at hs ⊢; exact ⟨hs, h.made, h.on, h.has⟩
      obtain ⟨k1, k2, k3, k4⟩ := on_go hf k (b := b.drop 64) (by simp only [List.length_drop]; omega) ho
      refine ⟨k1, k2, ?_, by rw [k4]; exact dur_burn d⟩
      rw [k3, cur_add, cur_burn, stepQ, get_set hf hf, if_pos rfl, set_set, doneB, if_pos rfl, List.append_assoc, List.take_append_drop]
theorem on_write (h : Onn d) (hf : inF f) : (dWrite d f b).2 = 0 ∧ Onn (dWrite d f b).1 ∧ curD (dWrite d f b).1 = setF (curD d) f (getF (curD d) f ++ b) ∧ (dWrite d f b).1.2.2.2.2.2.1 = d.2.2.2.2.2.1 := by
  rw [write_go (by rw [onn_right h]; decide) (Decidable.not_not.2 hf)]
  exact on_go hf _ (Nat.le_refl _) h
theorem on_sync (h : Onn d) : (dSync d).2 = 0 ∧ Onn (dSync d).1 ∧ (dSync d).1.2.2.2.2.2.1 = curD d ∧ (dSync d).1.2.2.2.2.2.2 = [] := by
  obtain ⟨h1, h2, h3⟩ := onn_sync h
  have e : dSync d = (settleD (burnD d).1 (burnD d).1.2.2.2.2.2.2.length, 0) := sync_go (by rw [onn_right h]; decide) (by rw [onn_burn h]; simp)
  refine ⟨h1, h2, ?_, ?_⟩ <;> rw [e, onn_burn h]
  · show play d.2.2.2.2.2.1 (d.2.2.2.2.2.2.take d.2.2.2.2.2.2.length) = _
    rw [List.take_length]; rfl
  · show d.2.2.2.2.2.2.drop d.2.2.2.2.2.2.length = []
    rw [List.drop_length]
theorem cur_none (h : d.2.2.2.2.2.2 = []) : curD d = d.2.2.2.2.2.1 := by unfold curD; rw [h]; rfl
end
/-- a disk, on or off, with or without a fuse, to which there were only writes since it was synced -/
structure Pg (d : DDisk) (A S : Dur) : Prop where
  ok : okD d
  made : d.1 = true
  all : ∀ s ∈ d.2.2.2.2.2.2, s.1 = 0 ∧ inF s.2.1
  dur : d.2.2.2.2.2.1 = S
  ends : curD d = A
section
variable {d : DDisk} {A S : Dur} {f n k t : Int} {b : Bytes}
theorem Pg.right (h : Pg d A S) (ho : d.2.1 = false) : wrongD d = 0 := by unfold wrongD; rw [if_neg (by rw [h.made]; decide), if_neg (by rw [ho]; decide)]
theorem pg_none (h : Onn d) (hn : d.2.2.2.2.2.2 = []) : Pg d d.2.2.2.2.2.1 d.2.2.2.2.2.1 := ⟨h.ok, h.made, (by rw [hn]; intro s q; cases q), rfl, cur_none hn⟩
theorem burn_cases (d : DDisk) : ((burnD d).2 = true ∧ (burnD d).1.2.1 = d.2.1) ∨ ((burnD d).2 = false ∧ (burnD d).1.2.1 = true) := by
  unfold burnD
  split
  · split
    · exact .inr ⟨rfl, rfl⟩
    · exact .inl ⟨rfl, rfl⟩
  · exact .inl ⟨rfl, rfl⟩
theorem Pg.burn (h : Pg d A S) : Pg (burnD d).1 A S := ⟨burn_ok h.ok, by rw [made_burn]; exact h.made, by rw [(burn_same d).2]; exact h.all, by rw [dur_burn]; exact h.dur, by rw [cur_burn]; exact h.ends⟩
theorem pg_go (hf : inF f) : ∀ (k : Nat) {d : DDisk} {A : Dur} {b : Bytes}, b.length ≤ k → Pg d A S → d.2.1 = false →
    ∃ p, p <+: b ∧ Pg (writeGo k d f b).1 (setF A f (getF A f ++ p)) S ∧ (((writeGo k d f b).2 = 0 ∧ p = b ∧ (writeGo k d f b).1.2.1 = false) ∨ ((writeGo k d f b).2 = 6 ∧ (writeGo k d f b).1.2.1 = true))
  | 0, d, A, b, hk, h, ho => by
    obtain rfl := List.eq_nil_of_length_eq_zero (Nat.le_zero.1 hk)
    exact ⟨[], List.prefix_refl _, by rw [List.append_nil, set_get]; exact h, .inl ⟨rfl, rfl, ho⟩⟩
  | k + 1, d, A, b, hk, h, ho => by
    unfold writeGo
    split
    · rename_i h0
      obtain rfl := List.eq_nil_of_length_eq_zero h0
      exact ⟨[], List.prefix_refl _, by rw [List.append_nil, set_get]; exact h, .inl ⟨rfl, rfl, ho⟩⟩
    · rename_i h0
      rcases burn_cases d with ⟨hb, hb2⟩ | ⟨hb, hb2⟩
      · rw [if_pos hb]
        have e1 : b.take 64 = b.take (min b.length 64) := by
          by_cases h0 : b.length ≤ 64
          · rw [Nat.min_eq_left h0, List.take_of_length_le h0, List.take_of_length_le (Nat.le_refl _)]
          · rw [Nat.min_eq_right (by omega)]
        have hs := step_ok (m := min b.length 64) h.ok hf (by omega) rfl
        rw [← e1] at hs
        have hb3 := h.burn
        have hA : Pg (addP (burnD d).1 (0, f, b.take 64, 0)) (setF A f (getF A f ++ b.take 64)) S := by
          refine ⟨hs, hb3.made, fun s hs' => ?_, hb3.dur, ?_⟩
          · rcases List.mem_append.1 hs' with q | q
            · exact hb3.all s q
            · simp only [List.mem_cons, List.not_mem_nil, or_false] at q; subst q; exact ⟨rfl, hf⟩
          · rw [cur_add, hb3.ends]; rfl
        obtain ⟨p, k1, k2, k3⟩ := pg_go hf k (b := b.drop 64) (by simp only [List.length_drop]; omega) hA (hb2.trans ho)
        refine ⟨b.take 64 ++ p, ?_, ?_, ?_⟩
        · obtain ⟨q, hq⟩ := k1
          exact ⟨q, by rw [List.append_assoc, hq, List.take_append_drop]⟩
        · rw [get_set hf hf, if_pos rfl, set_set, List.append_assoc] at k2; exact k2
        · rcases k3 with ⟨q1, q2, q3⟩ | q
          · exact .inl ⟨q1, by rw [q2, List.take_append_drop], q3⟩
          · exact .inr q
      · rw [if_neg (by rw [hb]; decide)]
        exact ⟨[], List.nil_prefix, by rw [List.append_nil, set_get]; exact h.burn, .inr ⟨rfl, hb2⟩⟩
theorem pg_write (h : Pg d A S) (ho : d.2.1 = false) (hf : inF f) :
    ∃ p, p <+: b ∧ Pg (dWrite d f b).1 (setF A f (getF A f ++ p)) S ∧ (((dWrite d f b).2 = 0 ∧ p = b ∧ (dWrite d f b).1.2.1 = false) ∨ ((dWrite d f b).2 = 6 ∧ (dWrite d f b).1.2.1 = true)) := by
  rw [write_go (by rw [h.right ho]; decide) (Decidable.not_not.2 hf)]
  exact pg_go hf _ (Nat.le_refl _) h ho
theorem pg_sync (h : Pg d A S) (ho : d.2.1 = false) : ((dSync d).2 = 0 ∧ Pg (dSync d).1 A A ∧ (dSync d).1.2.1 = false ∧ (dSync d).1.2.2.2.2.2.2 = []) ∨ ((dSync d).2 = 6 ∧ Pg (dSync d).1 A S ∧ (dSync d).1.2.1 = true) := by
  have hk := sync_ok h.ok
  have hb := h.burn
  rcases burn_cases d with ⟨b1, b2⟩ | ⟨b1, b2⟩
  · left
    rw [sync_go (by rw [h.right ho]; decide) (by rw [b1]; simp)] at hk ⊢
    have e : (settleD (burnD d).1 (burnD d).1.2.2.2.2.2.2.length).2.2.2.2.2.2 = [] := List.drop_length
    have e2 : (settleD (burnD d).1 (burnD d).1.2.2.2.2.2.2.length).2.2.2.2.2.1 = A := by
      show play (burnD d).1.2.2.2.2.2.1 ((burnD d).1.2.2.2.2.2.2.take (burnD d).1.2.2.2.2.2.2.length) = A
      rw [List.take_length]; exact hb.ends
    exact ⟨rfl, ⟨hk, hb.made, (by rw [e]; intro s q; cases q), e2, by rw [cur_none e]; exact e2⟩, b2.trans ho, e⟩
  · right
    rw [sync_off (by rw [h.right ho]; decide) (by rw [b1]; decide)] at hk ⊢
    exact ⟨rfl, hb, b2⟩
end
def Tw (d : DDisk) (r : DRDisk) : Prop := okD d ∧ fromR r = d
theorem Tw.keep {d d' : DDisk} {r : DRDisk} {x : Int} (h : Tw d r) (hk : okD d') (hn : nf d') : Tw d' (toR d' x) := ⟨hk, from_to hk hn⟩
theorem Tw.nf {d : DDisk} {r : DRDisk} (h : Tw d r) : nf d := by rw [← h.2]; exact nf_from r
section
variable {d : DDisk} {r : DRDisk} (h : Tw d r)
include h
theorem Tw.fuse {n : Int} : Tw (dFuse d n).1 (toR (dFuse (fromR r) n).1 r.2.2.2.2.2.1) ∧ (dFuse (fromR r) n).2 = (dFuse d n).2 := by rw [h.2]; exact ⟨h.keep (fuse_ok h.1) (nf_fuse h.nf), rfl⟩
theorem Tw.start {k t : Int} : Tw (dStart d k t).1 (toR (dStart (fromR r) k t).1 r.2.2.2.2.2.1) ∧ (dStart (fromR r) k t).2 = (dStart d k t).2 := by rw [h.2]; exact ⟨h.keep (start_ok h.1) (nf_start h.nf), rfl⟩
end
def smallS (s : DSection) : Prop := (∀ c ∈ s.2.2, c.2.2.length ≤ 40) ∧ s.2.2.length ≤ 40
instance (s : DSection) : Decidable (smallS s) := by unfold smallS; infer_instance
def logOk (ep n : Int) (B : Bytes) : Prop := (fRead B).2.2 = 0 ∧ (cDecode (fRead B).1).2 = 0 ∧ (cFollows ep n [(cDecode (fRead B).1).1]).1 = 0
instance (ep n : Int) (B : Bytes) : Decidable (logOk ep n B) := by unfold logOk; infer_instance
def onD (d : DDisk) : Prop := d.1 = true ∧ d.2.1 = false
instance (d : DDisk) : Decidable (onD d) := by unfold onD; infer_instance
def endR (l : List DRun) : Int := match l.getLast? with
  | some r => r.2.1
  | none => 0
def chainU : Int → List DRun → Prop
  | _, [] => True
  | e, r :: l => runCheck r = 0 ∧ r.1 = e + 1 ∧ chainU r.2.1 l
def okU (l : List DRun) : Prop := chainU 0 l
def rFrame (r : DRun) : Bytes := fEnc (runBody r)
def rFrames (l : List DRun) : Bytes := (l.map rFrame).flatten
section
variable {l : List DRun} {r x : DRun} {e : Int} {k : Nat}
theorem endR_nil (h : ¬ ¬ (l.length : Int) = 0) : endR l = 0 := by rw [List.eq_nil_of_length_eq_zero (show l.length = 0 by omega)]; rfl
theorem endR_at (hx : l[k]? = some x) (h : k + 1 = l.length) : endR l = x.2.1 := by
  unfold endR; rw [List.getLast?_eq_getElem?, show l.length - 1 = k by omega, hx]
theorem endR_snoc : endR (l ++ [r]) = r.2.1 := by unfold endR; rw [List.getLast?_append]; rfl
theorem chain_app : ∀ {l : List DRun} {e : Int}, chainU e (l ++ [r]) ↔ chainU e l ∧ runCheck r = 0 ∧ r.1 = (match l.getLast? with | some x => x.2.1 | none => e) + 1
  | [], e => by simp [chainU]
  | x :: l, e => by
    have h : (match (x :: l).getLast? with | some x => x.2.1 | none => e) = (match l.getLast? with | some y => y.2.1 | none => x.2.1) := by
      cases l with
      | nil => rfl
      | cons y l => rw [List.getLast?_cons_cons]; cases h : (y :: l).getLast? <;> simp_all
    rw [h, List.cons_append, chainU, chain_app, chainU]; exact ⟨fun h => ⟨⟨h.1, h.2.1, h.2.2.1⟩, h.2.2.2⟩, fun h => ⟨h.1.1, h.1.2.1, h.1.2.2, h.2⟩⟩
theorem okU_nil : okU [] := trivial
theorem okU_snoc (h : okU l) (hc : runCheck r = 0) (he : r.1 = endR l + 1) : okU (l ++ [r]) := chain_app.2 ⟨h, hc, he⟩
theorem okU_all : ∀ {l : List DRun} {e : Int}, chainU e l → ∀ r ∈ l, runCheck r = 0
  | [], _, _, _, h => by cases h
  | x :: l, e, h, r, hr => by
    rcases List.mem_cons.1 hr with rfl | hr
    · exact h.1
    · exact okU_all h.2.2 r hr
theorem chain_len : ∀ {l : List DRun} {e : Int}, chainU e l → e + l.length ≤ (match l.getLast? with | some x => x.2.1 | none => e)
  | [], e, _ => by simp
  | x :: l, e, h => by
    have h0 := runCheck_ok h.1
    have h1 := chain_len h.2.2
    have h2 : (match (x :: l).getLast? with | some x => x.2.1 | none => e) = (match l.getLast? with | some y => y.2.1 | none => x.2.1) := by
      cases l with
      | nil => rfl
      | cons y l => rw [List.getLast?_cons_cons]; cases h : (y :: l).getLast? <;> simp_all
    rw [h2]; have h3 := h.2.1; rw [List.length_cons]; omega
theorem okU_len (h : okU l) : (l.length : Int) ≤ endR l ∧ 0 ≤ endR l ∧ endR l ≤ 1048576 := by
  have h1 := chain_len h
  have h2 : endR l ≤ 1048576 := by
    unfold endR
    cases he : l.getLast? with
    | none => decide
    | some x => exact (runCheck_ok (okU_all h x (List.mem_of_getLast? he))).2.2.2.1
  have h3 : (l.length : Int) ≤ endR l := by have := h1; rw [Int.zero_add] at this; exact this
  exact ⟨h3, by omega, h2⟩
theorem okU_ops (h : okU l) (hx : l[k]? = some x) : x.2.2.length ≤ 1024 := (runCheck_ok (okU_all h x (List.mem_of_getElem? hx))).1
theorem okU_room (h : okU l) : ∀ c ∈ l, c.2.2.length ≤ 1024 := fun c hc => (runCheck_ok (okU_all h c hc)).1
end
def runOkAt (e : Int) (B : Bytes) : Prop := (fRead B).2.2 = 0 ∧ (runDecode (fRead B).1).2 = 0 ∧ (runDecode (fRead B).1).1.1 = e + 1
instance (e : Int) (B : Bytes) : Decidable (runOkAt e B) := by unfold runOkAt; infer_instance
def runGo : Nat → Bytes → List DRun → Int → List DRun × Int
  | 0, _, l, a => (l, a)
  | k + 1, B, l, a => if runOkAt (endR l) (B.drop a.toNat) then runGo k B (l ++ [(runDecode (fRead (B.drop a.toNat)).1).1]) (a + (fRead (B.drop a.toNat)).2.1) else (l, a)
def runF (B : Bytes) : List DRun × Int := runGo B.length B [] 0
def runAt (B : Bytes) (l : List DRun) (a : Int) : Prop := 0 ≤ a ∧ a ≤ B.length ∧ okU l ∧ ∃ n : Nat, (B.length : Int) - a ≤ n ∧ runF B = runGo n B l a
section
variable {B : Bytes} {l : List DRun} {a e : Int}
theorem runAt_0 (B : Bytes) : runAt B [] 0 := ⟨Int.le_refl _, Int.natCast_nonneg _, okU_nil, B.length, by omega, rfl⟩
theorem runOk_pos (h : runOkAt e B) : 1 ≤ (fRead B).2.1 ∧ (fRead B).2.1 ≤ B.length := by
  have := fRead_bounds B
  exact ⟨this.2.2.2.2.1 h.1, this.2.1⟩
theorem runAt_end (h : runAt B l a) (hn : ¬ runOkAt (endR l) (B.drop a.toNat)) : runF B = (l, a) := by
  obtain ⟨_, _, _, n, _, h2⟩ := h
  rw [h2]; cases n with
  | zero => rfl
  | succ n => exact if_neg hn
theorem runAt_next (h : runAt B l a) (ho : runOkAt (endR l) (B.drop a.toNat)) : runAt B (l ++ [(runDecode (fRead (B.drop a.toNat)).1).1]) (a + (fRead (B.drop a.toNat)).2.1) := by
  obtain ⟨h0, h1, h3, n, hn, h2⟩ := h
  have hp := runOk_pos ho
  rw [List.length_drop] at hp
  refine ⟨by omega, by omega, okU_snoc h3 (runDec_zero ho.2.1) ho.2.2, n - 1, by omega, ?_⟩
  rw [h2]; cases n with
  | zero => omega
  | succ n => exact if_pos ho
theorem runOk_of (he : e = endR l) (h1 : ¬ ¬ (fRead B).2.2 = 0) (h2 : ¬ ¬ (runDecode (fRead B).1).2 = 0) (h3 : ¬ ¬ (runDecode (fRead B).1).1.1 = e + 1) : runOkAt (endR l) B := ⟨Decidable.not_not.1 h1, Decidable.not_not.1 h2, by rw [← he]; exact Decidable.not_not.1 h3⟩
theorem runNo_1 (h : ¬ (fRead B).2.2 = 0) : ¬ runOkAt (endR l) B := fun q => h q.1
theorem runNo_2 (h : ¬ (runDecode (fRead B).1).2 = 0) : ¬ runOkAt (endR l) B := fun q => h q.2.1
theorem runNo_3 (he : e = endR l) (h : ¬ (runDecode (fRead B).1).1.1 = e + 1) : ¬ runOkAt (endR l) B := fun q => h (by rw [he]; exact q.2.2)
theorem runGo_spec : ∀ {k : Nat} {l : List DRun} {a : Int}, okU l → 0 ≤ a → a ≤ B.length → okU (runGo k B l a).1 ∧ 0 ≤ (runGo k B l a).2 ∧ (runGo k B l a).2 ≤ B.length
  | 0, l, a, h, h0, h1 => ⟨h, h0, h1⟩
  | k + 1, l, a, h, h0, h1 => by
    unfold runGo; split
    · rename_i ho
      have hp := runOk_pos ho
      rw [List.length_drop] at hp
      exact runGo_spec (okU_snoc h (runDec_zero ho.2.1) ho.2.2) (by omega) (by omega)
    · exact ⟨h, h0, h1⟩
theorem runF_ok (B : Bytes) : okU (runF B).1 ∧ 0 ≤ (runF B).2 ∧ (runF B).2 ≤ B.length := runGo_spec okU_nil (Int.le_refl _) (by omega)
theorem runF_bounds (B : Bytes) : 0 ≤ (runF B).2 ∧ (runF B).2 ≤ B.length ∧ (runF B).1.length ≤ 1048576 := by
  have h := runF_ok B; have h2 := okU_len h.1
  exact ⟨h.2.1, h.2.2, by omega⟩
end
abbrev USt := DDisk × Bool × List DRun
def uFlush (d : DDisk) (br : Bool) (l : List DRun) (x : DRun) : USt × Int :=
  if br = true ∨ ¬ onD d then ((d, true, l), 6) else if ¬ runCheck x = 0 then ((d, br, l), runCheck x) else if ¬ x.1 = endR l + 1 then ((d, br, l), 15)
  else if ¬ (dWrite d 2 (rFrame x)).2 = 0 then (((dWrite d 2 (rFrame x)).1, true, l), (dWrite d 2 (rFrame x)).2)
  else if ¬ (dSync (dWrite d 2 (rFrame x)).1).2 = 0 then (((dSync (dWrite d 2 (rFrame x)).1).1, true, l), (dSync (dWrite d 2 (rFrame x)).1).2)
  else (((dSync (dWrite d 2 (rFrame x)).1).1, br, l ++ [x]), 0)
theorem fnOk100 : fnOk Tryz.prog 100 = true := by kernel_rfl
theorem fnOk101 : fnOk Tryz.prog 101 = true := by kernel_rfl
theorem tsl45 : tsl Tryz.prog 45 = some (92, 3, 40) := by kernel_rfl
theorem fin0_uScan_ok {P : Prop} (h : P := by first | exact congrArg Prod.fst (runAt_end hl (runNo_1 (by assumption))) | exact (congrArg Prod.fst (runAt_end hl (runNo_1 (by assumption)))).symm | (rw [runAt_end hl (runNo_1 (by assumption))]; done) | exact congrArg Prod.fst (runAt_end hl (runNo_2 (by assumption))) | exact (congrArg Prod.fst (runAt_end hl (runNo_2 (by assumption)))).symm | (rw [runAt_end hl (runNo_2 (by assumption))]; done) | exact congrArg Prod.fst (runAt_end hl (runNo_3 hen (by assumption))) | exact (congrArg Prod.fst (runAt_end hl (runNo_3 hen (by assumption)))).symm | (rw [runAt_end hl (runNo_3 hen (by assumption))]; done)) : P := h
set_option maxHeartbeats 4000000 in
theorem uScan_ok (W : World) {v0 : Value} {d0 : List UInt8} (h0 : Rd (.sl .byte) (wm W) [v0] d0) (e0 : d0.length ≤ 140737488355000) : CallR Tryz.prog 52 [v0] W (mnil) (fun v m' => ∃ (s0 : Value), v = .tuple #[s0, .int .i64 ((runF d0).2)] ∧ Ow (.sl TRun) m' [s0] ((runF d0).1)) := by
  obtain ⟨A0, c0, rfl, l0, k0⟩ := h0.slice
  simp only [maxLen] at k0
  refine CallR.ofA (n := 46) Tryz.func52 rfl rfl rfl ?_
  refine VC.rs ?_
  refine VO.as ?_
  refine VO.as ?_
  refine VO.k3 0 2 3 ?_
  refine VC.rs ?_
  refine VO.as ?_
  refine VO.k4 0 2 3 4 ?_
  refine VC.rs ?_
  refine VO.as ?_
  refine VO.as ?_
  refine VO.kp [0] [(0, wm W)] ?_
  refine VO.k6 0 2 3 4 5 6 ?_
  refine VC.seq ?_
  refine VC.block ?_
  refine VC.inv ((101, mnil) :: _) (fun _ h => h.nilc 101) ?_
  refine VC.loop (G := (List DRun) × (Option Addr) × Nat × Mem × Int × Int) (fun g => [(4, Value.slice (g.2.1) ((g.1).length) ((g.2.2.1))), (5, Value.int .i64 ((g.2.2.2.2.2))), (6, Value.int .i64 ((g.2.2.2.2.1))), (0, Value.slice A0 (d0.length) (c0)), (2, Value.slice none (0) (0)), (3, Value.int .i64 (0))]) (fun g => [(101, (g.2.2.2.1)), (0, wm W)]) (fun g => (runAt d0 (g.1) (g.2.2.2.2.1)) ∧ ((g.2.2.2.2.2) = endR (g.1)) ∧ (Ow (.sl TRun) (g.2.2.2.1) [.slice (g.2.1) (g.1).length (g.2.2.1)] (g.1))) (fun g => ((d0.length : Int) - (g.2.2.2.2.1)).toNat) ([], none, 0, mnil, 0, 0) (⟨by exact runAt_0 d0, by rfl, (Ow.nil TRun mnil)⟩) ⟨⟨rfl, rfl, rfl, rfl, rfl, rfl, trivial⟩, fun _ h => h.sub [101, 0]⟩ ?_
  rintro ⟨l, l_A, l_c, l_m, at_, en⟩ ⟨hl, hen, h_l⟩
  replace hl : runAt d0 l at_ := hl
  replace hen : en = endR l := hen
  replace h_l : Ow (.sl TRun) l_m [.slice l_A l.length l_c] l := h_l
  show VC _ _ _ _ _ [(4, Value.slice l_A (l.length) (l_c)), (5, Value.int .i64 (en)), (6, Value.int .i64 (at_)), (0, Value.slice A0 (d0.length) (c0)), (2, Value.slice none (0) (0)), (3, Value.int .i64 (0))] [(101, l_m), (0, wm W)]
  have l_l : l.length ≤ l_c := by obtain ⟨_, _, he, hl, _⟩ := h_l.slice; simp only [Value.slice.injEq] at he; omega
  have k_l : l_c ≤ 9223372036854775807 := by obtain ⟨_, _, he, _, hl⟩ := h_l.slice; simp only [Value.slice.injEq, maxLen] at he hl; omega
  have hat0 := hl.1; have hat1 := hl.2.1
  have hrb := fRead_bounds (d0.drop at_.toNat)
  have hll := okU_len hl.2.2.1
  have hen2 := hen
  refine VC.block ?_
  refine VC.rs ?_
  refine VO.mv ?_
  refine VO.mv ?_
  obtain ⟨A2, hA2, hs2⟩ := h0.drop 1 ((at_).toNat) rfl bd
  refine VO.y rfl (.slLI ((at_).toNat) A2 rfl rfl tsl97 bd hA2 bd) ?_
  refine VO.callN 103 rfl fnOk100 rfl (fun W hW => fRead_ok W (Rd.mono hs2 (hW.at (i := 0) rfl))) (fun v3 m3 hv3 => ?_)
  obtain ⟨s3_0, rfl, f3_0⟩ := hv3
  have hfa4 := fRead_bounds (d0.drop ((at_).toNat))
  obtain ⟨A3_0, c3_0, eq3_0, l3_0, k3_0⟩ := f3_0.slice
  subst eq3_0
  simp only [maxLen] at k3_0
  refine VO.mv ?_
  refine VO.y rfl (.ext rfl rfl) ?_
  refine VO.y rfl (.ext rfl rfl) ?_
  refine VO.y rfl (.ext rfl rfl) ?_
  refine VO.as ?_
  refine VO.as ?_
  refine VO.as ?_
  refine VO.k9 0 2 3 4 5 6 7 8 9 ?_
  refine VC.seq ?_
  refine VC.rs ?_
  refine VO.mv ?_
  refine VO.y rfl (.neq rfl rfl) ?_
  refine VO.k10 0 2 3 4 5 6 7 8 9 20 ?_
  refine VC.cond rfl (fun hc5 => ?_) (fun hc5 => ?_)
  · -- T
    refine VC.exit ?_
    refine outE ?_
    refine outBE rfl ?_
    refine outE ?_
    refine outBB ?_
    refine outN ?_
    refine VC.rs ?_
    refine VO.mv ?_
    refine VO.mv ?_
    refine VO.as ?_
    refine VO.as ?_
    refine VO.kp [103, 101, 0] [(103, m3), (101, l_m), (0, wm W)] ?_
    refine VO.k10 0 2 3 4 5 6 7 8 9 20 ?_
    refine VC.ret ?_
    refine ⟨_, _, res_run (rs := [.tmp 2, .tmp 3]) rfl (.tmp rfl (.tmp rfl .nil)), fun W_ hI => out_of (l := [l_m]) hI [101] rfl rfl (mle_refl _) (fun hS_ => ?_)⟩
    dsimp only [packV]
    have he0 : ((runF d0).1 : Ty.Den (.sl TRun)) = l := by first | rfl | (exact fin0_uScan_ok)
    refine ⟨Value.slice l_A (l.length) (l_c), ?_, ?_⟩
    rotate_left
    · rw [he0]; exact (Ow.up h_l (hS_.1 _ (.head _)))
    all_goals (first | rfl | (exact fin0_uScan_ok))
  · -- F
    refine VC.skip ?_
    refine outN ?_
    refine VC.rs ?_
    refine VO.mv ?_
    refine VO.callN 106 rfl fnOk101 rfl (fun W hW => runDecode_ok W (OwnL.rd (Ow.ownl f3_0 rfl mnil) (hW.at (i := 103) rfl) (mle_nil _))) (fun v6 m6 hv6 => ?_)
    obtain ⟨s6_0, rfl, f6_0⟩ := hv6
    have hfa7 := runDecode_fits ((fRead (d0.drop ((at_).toNat))).1)
    obtain ⟨q6_0_A2, q6_0_c2, q6_0_n2, rfl, q6_0_S, q6_0_0, q6_0_1, q6_0_2⟩ := openO_Run (x0 := ((runDecode ((fRead (d0.drop ((at_).toNat))).1)).1).1) (x1 := ((runDecode ((fRead (d0.drop ((at_).toNat))).1)).1).2.1) (x2 := ((runDecode ((fRead (d0.drop ((at_).toNat))).1)).1).2.2) f6_0
    simp only [inK] at q6_0_0
    simp only [inK] at q6_0_1
    have q6_0_r2 := q6_0_2.rm
    refine VO.inv _ (fun _ h => h.parts (i := 106) rfl q6_0_S [108]) ?_
    refine VO.mv ?_
    refine VO.y rfl (.ext rfl rfl) ?_
    refine VO.y rfl (.ext rfl rfl) ?_
    refine VO.alloc 110 rfl tz92 (fun g9 => ?_)
    refine VO.store (k := 3) (c' := [Value.int .i64 (((runDecode ((fRead (d0.drop ((at_).toNat))).1)).1).1), Value.int .i64 (((runDecode ((fRead (d0.drop ((at_).toNat))).1)).1).2.1), Value.slice q6_0_A2 ((((runDecode ((fRead (d0.drop ((at_).toNat))).1)).1).2.2).length) (q6_0_c2)]) 110 rfl rfl (.inl tk92) rfl rfl rfl rfl rfl ?_
    refine VO.as ?_
    refine VO.kp [110, 108, 103, 101, 0] [(110, mone g9 (.cells [Value.int .i64 (((runDecode ((fRead (d0.drop ((at_).toNat))).1)).1).1), Value.int .i64 (((runDecode ((fRead (d0.drop ((at_).toNat))).1)).1).2.1), Value.slice q6_0_A2 ((((runDecode ((fRead (d0.drop ((at_).toNat))).1)).1).2.2).length) (q6_0_c2)].toArray 92 (0, 0))), (108, q6_0_n2), (103, m3), (101, l_m), (0, wm W)] ?_
    refine VO.k11 0 2 3 4 5 6 7 8 9 10 20 ?_
    refine VC.seq ?_
    refine VC.rs ?_
    refine VO.mv ?_
    refine VO.y rfl (.neq rfl rfl) ?_
    refine VO.mv ?_
    refine VO.dec (t := 28) rfl (fun hc11 => ?_) (fun hc11 => ?_)
    · -- FT
      refine VO.gN ?_
      refine VO.gN ?_
      refine VO.gN ?_
      refine VO.gN ?_
      refine VO.gN ?_
      refine VO.y rfl (.pT rfl rfl) ?_
      refine VO.k12 0 2 3 4 5 6 7 8 9 10 20 34 ?_
      refine VC.condT rfl ?_
      refine VC.exit ?_
      refine outE ?_
      refine outBE rfl ?_
      refine outE ?_
      refine outBB ?_
      refine outN ?_
      refine VC.rs ?_
      refine VO.mv ?_
      refine VO.mv ?_
      refine VO.as ?_
      refine VO.as ?_
      refine VO.k12 0 2 3 4 5 6 7 8 9 10 20 34 ?_
      refine VC.ret ?_
      refine ⟨_, _, res_run (rs := [.tmp 2, .tmp 3]) rfl (.tmp rfl (.tmp rfl .nil)), fun W_ hI => out_of (l := [l_m]) hI [101] rfl rfl (mle_refl _) (fun hS_ => ?_)⟩
      dsimp only [packV]
      have he0 : ((runF d0).1 : Ty.Den (.sl TRun)) = l := by first | rfl | (exact fin0_uScan_ok)
      refine ⟨Value.slice l_A (l.length) (l_c), ?_, ?_⟩
      rotate_left
      · rw [he0]; exact (Ow.up h_l (hS_.1 _ (.head _)))
      all_goals (first | rfl | (exact fin0_uScan_ok))
    · -- FF
      refine VO.gy rfl ⟨_, rfl, rfl⟩ (.fa rfl tst92 rfl) ?_
      refine VO.gy rfl ⟨_, rfl, rfl⟩ (.ld1 110 rfl tk3 rfl (cellsAt_one rfl rfl)) ?_
      refine VO.gy rfl ⟨_, rfl, rfl⟩ (.mv rfl) ?_
      refine VO.gy rfl ⟨_, rfl, rfl⟩ (.add rfl rfl rfl ⟨bd, bd⟩) ?_
      refine VO.gy rfl ⟨_, rfl, rfl⟩ (.neq rfl rfl) ?_
      refine VO.y rfl (.pF rfl rfl) ?_
      refine VO.k12 0 2 3 4 5 6 7 8 9 10 20 34 ?_
      refine VC.cond rfl (fun hc12 => ?_) (fun hc12 => ?_)
      · -- FFT
        refine VC.exit ?_
        refine outE ?_
        refine outBE rfl ?_
        refine outE ?_
        refine outBB ?_
        refine outN ?_
        refine VC.rs ?_
        refine VO.mv ?_
        refine VO.mv ?_
        refine VO.as ?_
        refine VO.as ?_
        refine VO.k12 0 2 3 4 5 6 7 8 9 10 20 34 ?_
        refine VC.ret ?_
        refine ⟨_, _, res_run (rs := [.tmp 2, .tmp 3]) rfl (.tmp rfl (.tmp rfl .nil)), fun W_ hI => out_of (l := [l_m]) hI [101] rfl rfl (mle_refl _) (fun hS_ => ?_)⟩
        dsimp only [packV]
        have he0 : ((runF d0).1 : Ty.Den (.sl TRun)) = l := by first | rfl | (exact fin0_uScan_ok)
        refine ⟨Value.slice l_A (l.length) (l_c), ?_, ?_⟩
        rotate_left
        · rw [he0]; exact (Ow.up h_l (hS_.1 _ (.head _)))
        all_goals (first | rfl | (exact fin0_uScan_ok))
      · -- FFF
        refine VC.skip ?_
        refine outN ?_
        refine VC.regD _ 11 [(0, true), (1, true), (4, true), (5, true), (6, true), (7, true), (8, true), (2, false), (3, false), (9, true), (10, true)] follows (by kernel_rfl) (fun _ h => h.sub [110, 103, 0]) ?_
        refine VD.y rfl rfl (.inl rfl) (.mv rfl) ?_
        refine VD.y rfl rfl (.inl rfl) (.ldA 110 rfl tk92 rfl (cellsAt_one rfl rfl)) ?_
        refine VD.y rfl rfl (.inl rfl) (.fa rfl tst92 rfl) ?_
        refine VD.y rfl rfl (.inl rfl) (.ld1 110 rfl tk3 rfl (cellsAt_one rfl rfl)) ?_
        refine VD.y rfl rfl (.inl rfl) (.mv rfl) ?_
        refine VD.y rfl rfl (.inl rfl) (.mv rfl) ?_
        refine VD.y rfl rfl (.inl rfl) (.add rfl rfl rfl ⟨bd, bd⟩) ?_
        refine VD.bsl (cs := [Value.int .i64 (((runDecode ((fRead (d0.drop ((at_).toNat))).1)).1).1), Value.int .i64 (((runDecode ((fRead (d0.drop ((at_).toNat))).1)).1).2.1), Value.slice q6_0_A2 ((((runDecode ((fRead (d0.drop ((at_).toNat))).1)).1).2.2).length) (q6_0_c2)]) 114 rfl rfl rfl tsl45 tz92 rfl rfl (fun _ h => h.sub [110, 103, 0]) (fun g13 => ?_)
        refine VD.appO (e := TRun) 101 108 114 rfl rfl rfl rfl tsl45 tz92 rfl rfl rfl rfl h_l (show Ow TRun _ _ ((runDecode ((fRead (d0.drop ((at_).toNat))).1)).1) from (mkO_Run (((runDecode ((fRead (d0.drop ((at_).toNat))).1)).1).1) (((runDecode ((fRead (d0.drop ((at_).toNat))).1)).1).2.1) (((runDecode ((fRead (d0.drop ((at_).toNat))).1)).1).2.2) (Seps.one (mle_refl _)) bdk bdk (OwnL.ow (Ow.ownl q6_0_2 rfl mnil) rfl))) Tryz.underlying45 (cellsAt_one rfl rfl) bdm bd (by decide) (fun _ _ h => h.sub [110, 103, 0]) (fun v15 m15 ho15 => ?_)
        obtain ⟨A15, c15, rfl, l15, k15⟩ := ho15.slice
        simp only [maxLen] at k15
        refine VD.y rfl rfl (.inl rfl) (.as rfl) ?_
        refine VD.y rfl rfl (.inl rfl) (.as rfl) ?_
        refine VD.nil rfl ?_ rfl
        refine VO.as ?_
        refine VO.k12 0 2 3 4 5 6 7 8 9 10 20 34 ?_
        refine outBN ?_
        exact outN ⟨⟨l ++ [((runDecode ((fRead (d0.drop ((at_).toNat))).1)).1)], A15, c15, m15, at_ + ((fRead (d0.drop ((at_).toNat))).2.1), ((runDecode ((fRead (d0.drop ((at_).toNat))).1)).1).2.1⟩, ⟨by exact runAt_next hl (runOk_of hen (by assumption) (by assumption) (by assumption)), by exact endR_snoc.symm, ho15⟩, by (have h_ := runOk_pos (runOk_of hen (by assumption) (by assumption) (by assumption)); simp only [List.length_drop] at *; omega), ⟨⟨rfl, rfl, rfl, rfl, rfl, rfl, trivial⟩, fun _ h => Inv.sub h [101, 0]⟩⟩
theorem fnOk79 : fnOk Tryz.prog 79 = true := by kernel_rfl
theorem tst101 : tst Tryz.prog 101 = some [(0, 1), (1, 1), (2, 1), (3, 1), (4, 1), (5, 4), (9, 1)] := by kernel_rfl
theorem tst148 : tst Tryz.prog 148 = some [(0, 1), (1, 1), (2, 1), (3, 1)] := by kernel_rfl
theorem tz101 : tz Tryz.prog 101 = some [.bool false, .bool false, .bool false, .int .i64 0, .int .i64 0, .slice none 0 0, .slice none 0 0, .slice none 0 0, .slice none 0 0, .slice none 0 0] := by kernel_rfl
theorem dNew_ok (W : World) : CallR Tryz.prog 18 [] W (mnil) (fun v m' => ∃ (s0 : Nat), v = .pointer (some ⟨s0, 0, none⟩) ∧ Ow (.ptr TdiskDisk) m' [.pointer (some ⟨s0, 0, none⟩)] (s0, newD)) := by
  refine CallR.ofA (n := 3) Tryz.func18 rfl rfl rfl ?_
  refine VC.rs ?_
  refine VO.as ?_
  refine VO.k1 0 ?_
  refine VC.rs ?_
  refine VO.y rfl (.bst (cs := [Value.bool true, Value.bool false, Value.bool false, Value.int .i64 (0), Value.int .i64 (0), Value.slice none (0) (0), Value.slice none (0) (0), Value.slice none (0) (0), Value.slice none (0) (0), Value.slice none (0) (0)]) rfl tst101 tz101 rfl) ?_
  refine VO.box (cs := [Value.bool true, Value.bool false, Value.bool false, Value.int .i64 (0), Value.int .i64 (0), Value.slice none (0) (0), Value.slice none (0) (0), Value.slice none (0) (0), Value.slice none (0) (0), Value.slice none (0) (0)]) 102 rfl rfl rfl (fun g1 => ?_)
  refine VO.as ?_
  refine VO.k1 0 ?_
  refine VC.ret ?_
  refine ⟨_, _, res_run (rs := [.tmp 0]) rfl (.tmp rfl .nil), fun W_ hI => out_of (l := [mone g1 (.cells [Value.bool true, Value.bool false, Value.bool false, Value.int .i64 (0), Value.int .i64 (0), Value.slice none (0) (0), Value.slice none (0) (0), Value.slice none (0) (0), Value.slice none (0) (0), Value.slice none (0) (0)].toArray 101 (0, 0))]) hI [102] rfl rfl (mle_refl _) (fun hS_ => ?_)⟩
  dsimp only [packV]
  have he0 : (newD : DdiskDisk) = (true, false, false, 0, 0, ([], [], [], []), []) := by first | rfl | (simp [*]; done)
  refine ⟨g1, ?_, ?_⟩
  rotate_left
  · rw [he0]; exact (mkP_diskDisk true false false 0 0 [] [] [] [] [] (Seps.nilAt 5 (Seps.nilAt 4 (Seps.nilAt 3 (Seps.nilAt 2 (Seps.nilAt 1 hS_))))) bdk bdk (Ow.nil _ _) (Ow.nil _ _) (Ow.nil _ _) (Ow.nil _ _) (Ow.nil _ _))
  all_goals (first | rfl | (simp [*]; done))
theorem dIs_ok (W : World) (d0 : Int) (h0 : inK .i64 d0) : CallR Tryz.prog 98 [.int .i64 d0] W (mnil) (fun v m' => v = .bool (decide (inF d0))) := by
  have h0' := h0; simp only [inK] at h0'
  refine CallR.ofA (n := 9) Tryz.func98 rfl rfl rfl ?_
  refine VC.rs ?_
  refine VO.as ?_
  refine VO.k2 0 2 ?_
  refine VC.rs ?_
  refine VO.mv ?_
  refine VO.y rfl (.geq rfl rfl) ?_
  refine VO.mv ?_
  refine VO.dec (t := 5) rfl (fun hc1 => ?_) (fun hc1 => ?_)
  · -- T
    refine VO.gy rfl ⟨_, rfl, rfl⟩ (.mv rfl) ?_
    refine VO.gy rfl ⟨_, rfl, rfl⟩ (.lss rfl rfl) ?_
    refine VO.y rfl (.pT rfl rfl) ?_
    refine VO.as ?_
    refine VO.k2 0 2 ?_
    refine VC.ret ?_
    refine ⟨_, _, res_run (rs := [.tmp 2]) rfl (.tmp rfl .nil), fun W_ hI => out_of (l := []) hI [] rfl rfl (mle_refl _) (fun hS_ => ?_)⟩
    dsimp only [packV]
    all_goals (first | rfl | (simp [inF, *]))
  · -- F
    refine VO.gN ?_
    refine VO.gN ?_
    refine VO.y rfl (.pF rfl rfl) ?_
    refine VO.as ?_
    refine VO.k2 0 2 ?_
    refine VC.ret ?_
    refine ⟨_, _, res_run (rs := [.tmp 2]) rfl (.tmp rfl .nil), fun W_ hI => out_of (l := []) hI [] rfl rfl (mle_refl _) (fun hS_ => ?_)⟩
    dsimp only [packV]
    all_goals (first | rfl | (simp [inF, *]))
theorem dNone_ok (W : World) {m0 : Mem} (hm : mle (m0) (wm W)) {g0 : Nat} {d0 : DdiskDisk} (h0 : Ow (.ptr TdiskDisk) m0 [.pointer (some ⟨g0, 0, none⟩)] (g0, d0)) : CallR Tryz.prog 79 [.pointer (some ⟨g0, 0, none⟩)] W (m0) (fun v m' => v = .bool (decide (d0.1 = false)) ∧ Ow (.ptr TdiskDisk) m' [.pointer (some ⟨g0, 0, none⟩)] (g0, d0)) := by
  refine CallR.ofB (n := 12) hm Tryz.func79 rfl rfl rfl ?_
  refine VC.rs ?_
  refine VO.as ?_
  refine VO.k2 0 2 ?_
  refine VC.rs ?_
  refine VO.mv ?_
  refine VO.y rfl (.pnil rfl rfl Tryz.underlying44 rfl) ?_
  refine VO.mv ?_
  refine VO.gy rfl ⟨_, rfl, rfl⟩ (.mv rfl) ?_
  refine VO.gy rfl ⟨_, rfl, rfl⟩ (.nilp rfl) ?_
  refine VO.gy rfl ⟨_, rfl, rfl⟩ (.fa rfl tst101 rfl) ?_
  obtain ⟨q1_E, q1_A5, q1_c5, q1_A6, q1_c6, q1_A7, q1_c7, q1_A8, q1_c8, q1_A9, q1_c9, q1_n5, q1_n6, q1_n7, q1_n8, q1_n9, _, q1_S, q1_3, q1_4, q1_5, q1_6, q1_7, q1_8, q1_9⟩ := openP_diskDisk (x0 := d0.1) (x1 := d0.2.1) (x2 := d0.2.2.1) (x3 := d0.2.2.2.1) (x4 := d0.2.2.2.2.1) (x5 := d0.2.2.2.2.2.1.1) (x6 := d0.2.2.2.2.2.1.2.1) (x7 := d0.2.2.2.2.2.1.2.2.1) (x8 := d0.2.2.2.2.2.1.2.2.2) (x9 := d0.2.2.2.2.2.2) h0
  simp only [inK] at q1_3
  simp only [inK] at q1_4
  have q1_r5 := q1_5.rm
  have q1_r6 := q1_6.rm
  have q1_r7 := q1_7.rm
  have q1_r8 := q1_8.rm
  have q1_r9 := q1_9.rm
  refine VO.inv _ (fun _ h => h.parts (i := 1) rfl q1_S [107, 102, 103, 104, 105, 106]) ?_
  refine VO.gy rfl ⟨_, rfl, rfl⟩ (.ld1 107 rfl tk4 rfl (cellsAt_one rfl rfl)) ?_
  refine VO.gy rfl ⟨_, rfl, rfl⟩ (.not rfl) ?_
  refine VO.y rfl (.pF rfl rfl) ?_
  refine VO.as ?_
  refine VO.clsP 108 [107, 102, 103, 104, 105, 106] rfl (fun hg8 => (show Ow (.ptr TdiskDisk) _ _ (_, d0) from (mkP_diskDisk d0.1 d0.2.1 d0.2.2.1 d0.2.2.2.1 d0.2.2.2.2.1 d0.2.2.2.2.2.1.1 d0.2.2.2.2.2.1.2.1 d0.2.2.2.2.2.1.2.2.1 d0.2.2.2.2.2.1.2.2.2 d0.2.2.2.2.2.2 hg8 bdk bdk (OwnL.ow (Ow.ownl q1_5 rfl mnil) rfl) (OwnL.ow (Ow.ownl q1_6 rfl mnil) rfl) (OwnL.ow (Ow.ownl q1_7 rfl mnil) rfl) (OwnL.ow (Ow.ownl q1_8 rfl mnil) rfl) q1_9))) (fun mc8 ho8 => ?_)
  refine VO.k2 0 2 ?_
  refine VC.ret ?_
  refine ⟨_, _, res_run (rs := [.tmp 2]) rfl (.tmp rfl .nil), fun W_ hI => out_of (l := [mc8]) hI [108] rfl rfl (mle_refl _) (fun hS_ => ?_)⟩
  dsimp only [packV]
  have hm0_ : (d0 : DdiskDisk) = d0 := by first | rfl | (simp [*]; done)
  refine ⟨?_, ?_⟩
  rotate_left
  · rw [hm0_]; exact (Ow.up ho8 (hS_.1 _ (.head _)))
  all_goals (first | rfl | (cases d0.1 <;> rfl))
theorem dWrong_ok (W : World) {m0 : Mem} (hm : mle (m0) (wm W)) {g0 : Nat} {d0 : DdiskDisk} (h0 : Ow (.ptr TdiskDisk) m0 [.pointer (some ⟨g0, 0, none⟩)] (g0, d0)) : CallR Tryz.prog 63 [.pointer (some ⟨g0, 0, none⟩)] W (m0) (fun v m' => v = .int .i64 (wrongD d0) ∧ Ow (.ptr TdiskDisk) m' [.pointer (some ⟨g0, 0, none⟩)] (g0, d0)) := by
  refine CallR.ofB (n := 11) hm Tryz.func63 rfl rfl rfl ?_
  refine VC.rs ?_
  refine VO.as ?_
  refine VO.k2 0 2 ?_
  refine VC.seq ?_
  refine VC.block ?_
  refine VC.rs ?_
  refine VO.mv ?_
  refine VO.call 1 rfl fnOk79 rfl rfl (fun W hW => dNone_ok W (hW.at (i := 1) rfl) h0) (fun v1 m1 hv1 => ?_)
  obtain ⟨rfl, w1_0⟩ := hv1
  refine VO.as ?_
  refine VO.k3 0 2 3 ?_
  refine VC.cond rfl (fun hc2 => ?_) (fun hc2 => ?_)
  · -- T
    refine VC.rs ?_
    refine VO.as ?_
    refine VO.kp [1, 0] [(1, m1), (0, mout (wm W) (m0))] ?_
    refine VO.k3 0 2 3 ?_
    refine VC.ret ?_
    refine outBR ?_
    refine outR ?_
    refine ⟨_, _, res_run (rs := [.tmp 2]) rfl (.tmp rfl .nil), fun W_ hI => out_of (l := [m1]) hI [1] rfl rfl (mle_refl _) (fun hS_ => ?_)⟩
    dsimp only [packV]
    have hm0_ : (d0 : DdiskDisk) = d0 := by first | rfl | (simp [*]; done)
    refine ⟨?_, ?_⟩
    rotate_left
    · rw [hm0_]; exact (Ow.up w1_0 (hS_.1 _ (.head _)))
    all_goals (first | rfl | (simp [wrongD, *]))
  · -- F
    refine VC.rs ?_
    refine VO.mv ?_
    refine VO.y rfl (.nilp rfl) ?_
    refine VO.y rfl (.fa rfl tst101 rfl) ?_
    obtain ⟨q3_E, q3_A5, q3_c5, q3_A6, q3_c6, q3_A7, q3_c7, q3_A8, q3_c8, q3_A9, q3_c9, q3_n5, q3_n6, q3_n7, q3_n8, q3_n9, _, q3_S, q3_3, q3_4, q3_5, q3_6, q3_7, q3_8, q3_9⟩ := openP_diskDisk (x0 := d0.1) (x1 := d0.2.1) (x2 := d0.2.2.1) (x3 := d0.2.2.2.1) (x4 := d0.2.2.2.2.1) (x5 := d0.2.2.2.2.2.1.1) (x6 := d0.2.2.2.2.2.1.2.1) (x7 := d0.2.2.2.2.2.1.2.2.1) (x8 := d0.2.2.2.2.2.1.2.2.2) (x9 := d0.2.2.2.2.2.2) w1_0
    simp only [inK] at q3_3
    simp only [inK] at q3_4
    have q3_r5 := q3_5.rm
    have q3_r6 := q3_6.rm
    have q3_r7 := q3_7.rm
    have q3_r8 := q3_8.rm
    have q3_r9 := q3_9.rm
    refine VO.inv _ (fun _ h => h.parts (i := 1) rfl q3_S [109, 104, 105, 106, 107, 108]) ?_
    refine VO.y rfl (.ld1 109 rfl tk4 rfl (cellsAt_one rfl rfl)) ?_
    refine VO.as ?_
    refine VO.clsP 110 [109, 104, 105, 106, 107, 108] rfl (fun hg10 => (show Ow (.ptr TdiskDisk) _ _ (_, d0) from (mkP_diskDisk d0.1 d0.2.1 d0.2.2.1 d0.2.2.2.1 d0.2.2.2.2.1 d0.2.2.2.2.2.1.1 d0.2.2.2.2.2.1.2.1 d0.2.2.2.2.2.1.2.2.1 d0.2.2.2.2.2.1.2.2.2 d0.2.2.2.2.2.2 hg10 bdk bdk (OwnL.ow (Ow.ownl q3_5 rfl mnil) rfl) (OwnL.ow (Ow.ownl q3_6 rfl mnil) rfl) (OwnL.ow (Ow.ownl q3_7 rfl mnil) rfl) (OwnL.ow (Ow.ownl q3_8 rfl mnil) rfl) q3_9))) (fun mc10 ho10 => ?_)
    refine VO.kp [110, 0] [(110, mc10), (0, mout (wm W) (m0))] ?_
    refine VO.k4 0 2 3 6 ?_
    refine VC.condB rfl (fun hc11 => ?_) (fun hc11 => ?_)
    · -- FT
      refine VC.rs ?_
      refine VO.as ?_
      refine VO.k4 0 2 3 6 ?_
      refine VC.ret ?_
      refine outBR ?_
      refine outR ?_
      refine ⟨_, _, res_run (rs := [.tmp 2]) rfl (.tmp rfl .nil), fun W_ hI => out_of (l := [mc10]) hI [110] rfl rfl (mle_refl _) (fun hS_ => ?_)⟩
      dsimp only [packV]
      have hm0_ : (d0 : DdiskDisk) = d0 := by first | rfl | (simp [*]; done)
      refine ⟨?_, ?_⟩
      rotate_left
      · rw [hm0_]; exact (Ow.up ho10 (hS_.1 _ (.head _)))
      all_goals (first | rfl | (simp [wrongD, *]))
    · -- FF
      refine VC.skip ?_
      refine outBN ?_
      refine outN ?_
      refine VC.rs ?_
      refine VO.as ?_
      refine VO.k4 0 2 3 6 ?_
      refine VC.ret ?_
      refine ⟨_, _, res_run (rs := [.tmp 2]) rfl (.tmp rfl .nil), fun W_ hI => out_of (l := [mc10]) hI [110] rfl rfl (mle_refl _) (fun hS_ => ?_)⟩
      dsimp only [packV]
      have hm0_ : (d0 : DdiskDisk) = d0 := by first | rfl | (simp [*]; done)
      refine ⟨?_, ?_⟩
      rotate_left
      · rw [hm0_]; exact (Ow.up ho10 (hS_.1 _ (.head _)))
      all_goals (first | rfl | (simp [wrongD, *]))
theorem dDone_ok (W : World) {m0 : Mem} (hm : mle (m0) (wm W)) {v0 : Value} {d0 : List UInt8} (h0 : Ow (.sl .byte) m0 [v0] d0) {v1 : List Value} {d1 : Ddiskstep} (h1 : Rd Tdiskstep (mout (wm W) (m0)) v1 d1) (e0 : d1.1 = 1 → 0 ≤ d1.2.2.2 ∧ d1.2.2.2 ≤ d0.length) (e1 : d0.length + d1.2.2.1.length ≤ 140737488355000) : CallR Tryz.prog 131 [v0, .agg v1.toArray] W (m0) (fun v m' => ∃ (s0 : Value), v = s0 ∧ Ow (.sl .byte) m' [s0] (doneB d0 d1)) := by
  obtain ⟨A0, c0, e0_, l0, k0⟩ := h0.slice
  subst e0_
  simp only [maxLen] at k0
  obtain ⟨p1_A2, p1_c2, rfl, p1_0, p1_1, p1_2, p1_3⟩ := open_diskstep (x0 := d1.1) (x1 := d1.2.1) (x2 := d1.2.2.1) (x3 := d1.2.2.2) h1
  simp only [inK] at p1_0
  simp only [inK] at p1_1
  have p1_r2 := Rd.room p1_2
  simp only [inK] at p1_3
  refine CallR.ofB (n := 20) hm Tryz.func131 rfl rfl rfl ?_
  refine VC.rs ?_
  refine VO.box (cs := [Value.int .i64 (d1.1), Value.int .i64 (d1.2.1), Value.slice p1_A2 (d1.2.2.1.length) (p1_c2), Value.int .i64 (d1.2.2.2)]) 102 rfl rfl rfl (fun g1 => ?_)
  refine VO.as ?_
  refine VO.k4 0 1 3 4 ?_
  refine VC.seq ?_
  refine VC.rs ?_
  refine VO.y rfl (.fa rfl tst148 rfl) ?_
  refine VO.y rfl (.ld1 102 rfl tk3 rfl (cellsAt_one rfl rfl)) ?_
  refine VO.k5 0 1 3 4 6 ?_
  refine VC.block ?_
  refine VC.rs ?_
  refine VO.y rfl (.eql rfl rfl) ?_
  refine VO.as ?_
  refine VO.kp [102, 0, 1] [(102, mone g1 (.cells [Value.int .i64 (d1.1), Value.int .i64 (d1.2.1), Value.slice p1_A2 (d1.2.2.1.length) (p1_c2), Value.int .i64 (d1.2.2.2)].toArray 148 (0, 0))), (0, mout (wm W) (m0)), (1, m0)] ?_
  refine VO.k6 0 1 3 4 6 7 ?_
  refine VC.cond rfl (fun hc3 => ?_) (fun hc3 => ?_)
  · -- T
    refine VC.rs ?_
    refine VO.mv ?_
    refine VO.y rfl (.fa rfl tst148 rfl) ?_
    refine VO.y rfl (.ld1 102 rfl tk97 rfl (cellsAt_one rfl rfl)) ?_
    obtain ⟨mo4, cs4, hM4, hA4, hC4⟩ := (Ow.ownl h0 rfl mnil)
    obtain ⟨all4, hS4, hR4⟩ := Rd.srcI (P := Tryz.prog) (p1_2) Tryz.underlying97
    refine VO.app 1 rfl rfl rfl tsl97 tz5 rfl rfl hM4 hA4 (hS4 _ 0 rfl) hR4.nice bdm bd (by decide) (fun v4 m4 hN4 => ?_)
    have ho4 : OwnL .byte m4 mnil v4 (d0 ++ d1.2.2.1) := OwnL.more hC4 hN4 (All2c.mono hR4 fun _ _ h => Rd.flat rfl h _)
    obtain ⟨A4, c4, rfl, l4, k4⟩ := ho4.slice
    simp only [maxLen] at k4
    refine VO.as ?_
    refine VO.k6 0 1 3 4 6 7 ?_
    refine VC.ret ?_
    refine outBR ?_
    refine outR ?_
    refine ⟨_, _, res_run (rs := [.tmp 4]) rfl (.tmp rfl .nil), fun W_ hI => out_of (l := [m4]) hI [1] rfl rfl (mle_refl _) (fun hS_ => ?_)⟩
    dsimp only [packV]
    have he0 : (doneB d0 d1 : Ty.Den (.sl .byte)) = d0 ++ d1.2.2.1 := by first | rfl | (simp [doneB, *]; done)
    refine ⟨Value.slice A4 ((d0 ++ d1.2.2.1).length) (c4), ?_, ?_⟩
    rotate_left
    · rw [he0]; exact (Ow.up (OwnL.ow ho4 rfl) (hS_.1 _ (.head _)))
    all_goals (first | rfl | (simp [*]; done))
  · -- F
    refine VC.rs ?_
    refine VO.y rfl (.eql rfl rfl) ?_
    refine VO.as ?_
    refine VO.k7 0 1 3 4 6 7 13 ?_
    refine VC.cond rfl (fun hc5 => ?_) (fun hc5 => ?_)
    · -- FT
      refine VC.rs ?_
      refine VO.mv ?_
      refine VO.y rfl (.fa rfl tst148 rfl) ?_
      refine VO.y rfl (.ld1 102 rfl tk3 rfl (cellsAt_one rfl rfl)) ?_
      have hs6 := (OwnL.rd (Ow.ownl h0 rfl mnil) (mle_refl _) (mle_nil _)).pre (j := ((d1.2.2.2).toNat)) bd
      refine VO.y rfl (.slHI ((d1.2.2.2).toNat) rfl rfl tsl97 bd bd) ?_
      refine VO.as ?_
      refine VO.k7 0 1 3 4 6 7 13 ?_
      refine VC.ret ?_
      refine outBR ?_
      refine outR ?_
      refine ⟨_, _, res_run (rs := [.tmp 4]) rfl (.tmp rfl .nil), fun W_ hI => out_of (l := [m0]) hI [1] rfl rfl (mle_refl _) (fun hS_ => ?_)⟩
      dsimp only [packV]
      have he0 : (doneB d0 d1 : Ty.Den (.sl .byte)) = (d0).take ((d1.2.2.2).toNat) := by first | rfl | (simp [doneB, *]; done)
      refine ⟨Value.slice A0 ((d1.2.2.2).toNat) (c0), ?_, ?_⟩
      rotate_left
      · rw [he0]; exact (Ow.up (OwnL.ow ((Ow.ownl h0 rfl mnil).pre (j := ((d1.2.2.2).toNat)) bd) rfl) (hS_.1 _ (.head _)))
      all_goals (first | rfl | (simp [*]; done))
    · -- FF
      refine VC.skip ?_
      refine outBN ?_
      refine outN ?_
      refine VC.rs ?_
      refine VO.mv ?_
      refine VO.as ?_
      refine VO.k7 0 1 3 4 6 7 13 ?_
      refine VC.ret ?_
      refine ⟨_, _, res_run (rs := [.tmp 4]) rfl (.tmp rfl .nil), fun W_ hI => out_of (l := [m0]) hI [1] rfl rfl (mle_refl _) (fun hS_ => ?_)⟩
      dsimp only [packV]
      have he0 : (doneB d0 d1 : Ty.Den (.sl .byte)) = d0 := by first | rfl | (simp [doneB, *]; done)
      refine ⟨Value.slice A0 (d0.length) (c0), ?_, ?_⟩
      rotate_left
      · rw [he0]; exact (Ow.up (OwnL.ow (Ow.ownl h0 rfl mnil) rfl) (hS_.1 _ (.head _)))
      all_goals (first | rfl | (simp [*]; done))
theorem fnOk131 : fnOk Tryz.prog 131 = true := by kernel_rfl
theorem tar98 : tar Tryz.prog 98 = some (4, 1) := by kernel_rfl
theorem tk148 : tk Tryz.prog 148 = some (some 4) := by kernel_rfl
theorem tk99 : tk Tryz.prog 99 = some none := by kernel_rfl
theorem tsl99 : tsl Tryz.prog 99 = some (148, 4, 48) := by kernel_rfl
theorem tz148 : tz Tryz.prog 148 = some [.int .i64 0, .int .i64 0, .slice none 0 0, .int .i64 0] := by kernel_rfl
theorem dHeld_ok (W : World) {m0 : Mem} (hm : mle (m0) (wm W)) {g0 : Nat} {d0 : DdiskDisk} (h0 : Ow (.ptr TdiskDisk) m0 [.pointer (some ⟨g0, 0, none⟩)] (g0, d0)) (d1 : Int) (h1 : inK .i64 d1) (e0 : okD d0) (e1 : wD d0 ≤ 2*1000000000000) (e2 : inF d1) : CallR Tryz.prog 99 [.pointer (some ⟨g0, 0, none⟩), .int .i64 d1] W (m0) (fun v m' => ∃ (s0 : Value), ∃ (p0 : Mem), ∃ (p1 : Mem), v = s0 ∧ Seps m' [p0, p1] ∧ Ow (.sl .byte) p0 [s0] (heldB d0.2.2.2.2.2.1 d0.2.2.2.2.2.2 d1) ∧ Ow (.ptr TdiskDisk) p1 [.pointer (some ⟨g0, 0, none⟩)] (g0, d0)) := by
  obtain ⟨hg, hfu, hst⟩ := e0; simp only [wD, sizeQ] at e1; have hin := e2; simp only [inF] at hin
  have h1' := h1; simp only [inK] at h1'
  refine CallR.ofB (n := 33) hm Tryz.func99 rfl rfl rfl ?_
  refine VC.rs ?_
  refine VO.as ?_
  refine VO.k3 0 1 4 ?_
  refine VC.seqJ (G := (List UInt8) × (Option Addr) × Nat × Mem × Mem) (fun g => [(5, Value.slice (g.2.1) ((g.1).length) ((g.2.2.1))), (0, Value.pointer (some ⟨g0, 0, none⟩)), (1, Value.int .i64 (d1)), (4, Value.slice none (0) (0))]) (fun g => [(111, (g.2.2.2.2)), (110, (g.2.2.2.1)), (0, mout (wm W) (m0))]) (fun g => ((g.1) = heldB d0.2.2.2.2.2.1 (d0.2.2.2.2.2.2.take 0) d1) ∧ (OwnL .byte (g.2.2.2.1) mnil (.slice (g.2.1) (g.1).length (g.2.2.1)) (g.1)) ∧ (Ow (.ptr TdiskDisk) (g.2.2.2.2) [.pointer (some ⟨g0, 0, none⟩)] (g0, d0))) ?_ ?_
  · -- 0J
    rintro ⟨bj, bj_A, bj_c, bj_m, dd_m⟩ ⟨hbj, h_bj, h_dd⟩
    replace hbj : bj = heldB d0.2.2.2.2.2.1 (d0.2.2.2.2.2.2.take 0) d1 := hbj
    replace h_bj : OwnL .byte bj_m mnil (.slice bj_A bj.length bj_c) bj := h_bj
    replace h_dd : Ow (.ptr TdiskDisk) dd_m [.pointer (some ⟨g0, 0, none⟩)] (g0, d0) := h_dd
    show VC _ _ _ _ _ [(5, Value.slice bj_A (bj.length) (bj_c)), (0, Value.pointer (some ⟨g0, 0, none⟩)), (1, Value.int .i64 (d1)), (4, Value.slice none (0) (0))] [(111, dd_m), (110, bj_m), (0, mout (wm W) (m0))]
    have l_bj : bj.length ≤ bj_c := by obtain ⟨_, _, he, hl, _⟩ := h_bj.slice; simp only [Value.slice.injEq] at he; omega
    have k_bj : bj_c ≤ 9223372036854775807 := by obtain ⟨_, _, he, _, hl⟩ := h_bj.slice; simp only [Value.slice.injEq, maxLen] at he hl; omega
    refine VC.seq ?_
    refine VC.rs ?_
    refine VO.mv ?_
    refine VO.y rfl (.nilp rfl) ?_
    refine VO.y rfl (.fa rfl tst101 rfl) ?_
    obtain ⟨q12_E, q12_A5, q12_c5, q12_A6, q12_c6, q12_A7, q12_c7, q12_A8, q12_c8, q12_A9, q12_c9, q12_n5, q12_n6, q12_n7, q12_n8, q12_n9, _, q12_S, q12_3, q12_4, q12_5, q12_6, q12_7, q12_8, q12_9⟩ := openP_diskDisk (x0 := d0.1) (x1 := d0.2.1) (x2 := d0.2.2.1) (x3 := d0.2.2.2.1) (x4 := d0.2.2.2.2.1) (x5 := d0.2.2.2.2.2.1.1) (x6 := d0.2.2.2.2.2.1.2.1) (x7 := d0.2.2.2.2.2.1.2.2.1) (x8 := d0.2.2.2.2.2.1.2.2.2) (x9 := d0.2.2.2.2.2.2) h_dd
    simp only [inK] at q12_3
    simp only [inK] at q12_4
    have q12_r5 := q12_5.rm
    have q12_r6 := q12_6.rm
    have q12_r7 := q12_7.rm
    have q12_r8 := q12_8.rm
    have q12_r9 := q12_9.rm
    refine VO.inv _ (fun _ h => h.parts (i := 111) rfl q12_S [118, 113, 114, 115, 116, 117]) ?_
    refine VO.y rfl (.ld1 118 rfl tk99 rfl (cellsAt_one rfl rfl)) ?_
    refine VO.y rfl (.lenS rfl tsl99) ?_
    refine VO.mv ?_
    refine VO.kp [118, 113, 114, 115, 116, 117, 110, 0] [(118, mone g0 (.cells [Value.bool d0.1, Value.bool d0.2.1, Value.bool d0.2.2.1, Value.int .i64 (d0.2.2.2.1), Value.int .i64 (d0.2.2.2.2.1), Value.slice q12_A5 (d0.2.2.2.2.2.1.1.length) (q12_c5), Value.slice q12_A6 (d0.2.2.2.2.2.1.2.1.length) (q12_c6), Value.slice q12_A7 (d0.2.2.2.2.2.1.2.2.1.length) (q12_c7), Value.slice q12_A8 (d0.2.2.2.2.2.1.2.2.2.length) (q12_c8), Value.slice q12_A9 (d0.2.2.2.2.2.2.length) (q12_c9)].toArray q12_E (0, 0))), (113, q12_n5), (114, q12_n6), (115, q12_n7), (116, q12_n8), (117, q12_n9), (110, bj_m), (0, mout (wm W) (m0))] ?_
    refine VO.k7 0 1 4 5 18 19 20 ?_
    refine VC.block ?_
    refine VC.loop (G := Nat × (List UInt8) × (Option Addr) × Nat × Mem) (fun g => [(5, Value.slice (g.2.2.1) ((g.2.1).length) ((g.2.2.2.1))), (20, Value.int .i64 ((((g.1) : Nat) : Int))), (0, Value.pointer (some ⟨g0, 0, none⟩)), (1, Value.int .i64 (d1)), (4, Value.slice none (0) (0)), (18, Value.slice q12_A9 (d0.2.2.2.2.2.2.length) (q12_c9)), (19, Value.int .i64 (((d0.2.2.2.2.2.2.length : Nat) : Int)))]) (fun g => [(118, mone g0 (.cells [Value.bool d0.1, Value.bool d0.2.1, Value.bool d0.2.2.1, Value.int .i64 (d0.2.2.2.1), Value.int .i64 (d0.2.2.2.2.1), Value.slice q12_A5 (d0.2.2.2.2.2.1.1.length) (q12_c5), Value.slice q12_A6 (d0.2.2.2.2.2.1.2.1.length) (q12_c6), Value.slice q12_A7 (d0.2.2.2.2.2.1.2.2.1.length) (q12_c7), Value.slice q12_A8 (d0.2.2.2.2.2.1.2.2.2.length) (q12_c8), Value.slice q12_A9 (d0.2.2.2.2.2.2.length) (q12_c9)].toArray q12_E (0, 0))), (113, q12_n5), (114, q12_n6), (115, q12_n7), (116, q12_n8), (117, q12_n9), (110, (g.2.2.2.2)), (0, mout (wm W) (m0))]) (fun g => ((g.1) ≤ d0.2.2.2.2.2.2.length) ∧ ((g.2.1) = heldB d0.2.2.2.2.2.1 (d0.2.2.2.2.2.2.take (g.1)) d1) ∧ (OwnL .byte (g.2.2.2.2) mnil (.slice (g.2.2.1) (g.2.1).length (g.2.2.2.1)) (g.2.1))) (fun g => d0.2.2.2.2.2.2.length - (g.1)) (0, bj, bj_A, bj_c, bj_m) (⟨by omega, by exact hbj, h_bj⟩) ⟨⟨rfl, rfl, rfl, rfl, rfl, rfl, rfl, trivial⟩, fun _ h => h.sub [118, 113, 114, 115, 116, 117, 110, 0]⟩ ?_
    rintro ⟨k, b, b_A, b_c, b_m⟩ ⟨hk, hb, h_b⟩
    replace hk : k ≤ d0.2.2.2.2.2.2.length := hk
    replace hb : b = heldB d0.2.2.2.2.2.1 (d0.2.2.2.2.2.2.take k) d1 := hb
    replace h_b : OwnL .byte b_m mnil (.slice b_A b.length b_c) b := h_b
    show VC _ _ _ _ _ [(5, Value.slice b_A (b.length) (b_c)), (20, Value.int .i64 (((k : Nat) : Int))), (0, Value.pointer (some ⟨g0, 0, none⟩)), (1, Value.int .i64 (d1)), (4, Value.slice none (0) (0)), (18, Value.slice q12_A9 (d0.2.2.2.2.2.2.length) (q12_c9)), (19, Value.int .i64 (((d0.2.2.2.2.2.2.length : Nat) : Int)))] [(118, mone g0 (.cells [Value.bool d0.1, Value.bool d0.2.1, Value.bool d0.2.2.1, Value.int .i64 (d0.2.2.2.1), Value.int .i64 (d0.2.2.2.2.1), Value.slice q12_A5 (d0.2.2.2.2.2.1.1.length) (q12_c5), Value.slice q12_A6 (d0.2.2.2.2.2.1.2.1.length) (q12_c6), Value.slice q12_A7 (d0.2.2.2.2.2.1.2.2.1.length) (q12_c7), Value.slice q12_A8 (d0.2.2.2.2.2.1.2.2.2.length) (q12_c8), Value.slice q12_A9 (d0.2.2.2.2.2.2.length) (q12_c9)].toArray q12_E (0, 0))), (113, q12_n5), (114, q12_n6), (115, q12_n7), (116, q12_n8), (117, q12_n9), (110, b_m), (0, mout (wm W) (m0))]
    have l_b : b.length ≤ b_c := by obtain ⟨_, _, he, hl, _⟩ := h_b.slice; simp only [Value.slice.injEq] at he; omega
    have k_b : b_c ≤ 9223372036854775807 := by obtain ⟨_, _, he, _, hl⟩ := h_b.slice; simp only [Value.slice.injEq, maxLen] at he hl; omega
    refine VC.rs ?_
    refine VO.y rfl (.lss rfl rfl) ?_
    refine VO.k8 0 1 4 5 18 19 20 21 ?_
    refine VC.seq ?_
    refine VC.cond rfl (fun hc19 => ?_) (fun hc19 => ?_)
    · -- 0JT
      refine VC.skip ?_
      refine outN ?_
      refine VC.seq ?_
      refine VC.block ?_
      refine VC.rs ?_
      obtain ⟨x20, hx20⟩ : ∃ z_, (d0.2.2.2.2.2.2)[k]? = some z_ := ⟨_, List.getElem?_eq_getElem bd⟩
      obtain ⟨gg20, oo20, ec20, ea20, hce20, hre20⟩ := (Ow.rd q12_9 (mle_refl _)).elem hx20
      cases ea20
      obtain ⟨q20_A2, q20_c2, rfl, q20_0, q20_1, q20_2, q20_3⟩ := open_diskstep (x0 := x20.1) (x1 := x20.2.1) (x2 := x20.2.2.1) (x3 := x20.2.2.2) hre20
      simp only [inK] at q20_0
      simp only [inK] at q20_1
      have q20_r2 := Rd.room q20_2
      simp only [inK] at q20_3
      refine VO.y rfl (.ixI k rfl rfl tsl99 rfl bd) ?_
      refine VO.y rfl (.ldA 117 rfl tk148 rfl hce20) ?_
      refine VO.alloc 122 rfl tz148 (fun g21 => ?_)
      refine VO.store (k := 4) (c' := [Value.int .i64 (x20.1), Value.int .i64 (x20.2.1), Value.slice q20_A2 (x20.2.2.1.length) (q20_c2), Value.int .i64 (x20.2.2.2)]) 122 rfl rfl (.inl tk148) rfl rfl rfl rfl rfl ?_
      refine VO.k9 0 1 4 5 7 18 19 20 21 ?_
      refine VC.rs ?_
      refine VO.y rfl (.fa rfl tst148 rfl) ?_
      refine VO.y rfl (.ld1 122 rfl tk3 rfl (cellsAt_one rfl rfl)) ?_
      refine VO.mv ?_
      refine VO.y rfl (.eql rfl rfl) ?_
      refine VO.kp [122, 118, 113, 114, 115, 116, 117, 110, 0] [(122, mone g21 (.cells [Value.int .i64 (x20.1), Value.int .i64 (x20.2.1), Value.slice q20_A2 (x20.2.2.1.length) (q20_c2), Value.int .i64 (x20.2.2.2)].toArray 148 (0, 0))), (118, mone g0 (.cells [Value.bool d0.1, Value.bool d0.2.1, Value.bool d0.2.2.1, Value.int .i64 (d0.2.2.2.1), Value.int .i64 (d0.2.2.2.2.1), Value.slice q12_A5 (d0.2.2.2.2.2.1.1.length) (q12_c5), Value.slice q12_A6 (d0.2.2.2.2.2.1.2.1.length) (q12_c6), Value.slice q12_A7 (d0.2.2.2.2.2.1.2.2.1.length) (q12_c7), Value.slice q12_A8 (d0.2.2.2.2.2.1.2.2.2.length) (q12_c8), Value.slice (some ⟨gg20, oo20, none⟩) (d0.2.2.2.2.2.2.length) (q12_c9)].toArray q12_E (0, 0))), (113, q12_n5), (114, q12_n6), (115, q12_n7), (116, q12_n8), (117, q12_n9), (110, b_m), (0, mout (wm W) (m0))] ?_
      refine VO.k10 0 1 4 5 7 18 19 20 21 27 ?_
      refine VC.cond rfl (fun hc23 => ?_) (fun hc23 => ?_)
      · -- 0JTT
        refine VC.reg ?_
        refine VO.mv ?_
        refine VO.y rfl (.ldA 122 rfl tk148 rfl (cellsAt_one rfl rfl)) ?_
        refine VO.call 110 rfl fnOk131 rfl rfl (fun W hW => dDone_ok W (hW.at (i := 110) rfl) (OwnL.ow h_b rfl) (Rd.mono hre20 (hW.out (i := 110) (j := 117) rfl rfl)) (by exact held_cut hg hb ‹d0.2.2.2.2.2.2[k]? = some _› e2 ‹_ = d1›) (by (have h_ := held_room hb ‹d0.2.2.2.2.2.2[k]? = some _›; simp only [sizeQ] at h_; omega))) (fun v24 m24 hv24 => ?_)
        obtain ⟨s24_0, rfl, f24_0⟩ := hv24
        obtain ⟨A24_0, c24_0, eq24_0, l24_0, k24_0⟩ := f24_0.slice
        subst eq24_0
        simp only [maxLen] at k24_0
        refine VO.as ?_
        refine VO.k10 0 1 4 5 7 18 19 20 21 27 ?_
        refine outBN ?_
        refine outN ?_
        refine VC.reg ?_
        refine VO.y rfl (.add (c := ((k + 1 : Nat) : Int)) rfl rfl (by omega) ⟨bd, bd⟩) ?_
        refine VO.mv ?_
        refine VO.k10 0 1 4 5 7 18 19 20 21 27 ?_
        exact outN ⟨⟨k + 1, doneB b x20, A24_0, c24_0, m24⟩, ⟨by omega, by first | exact held_yes hb ‹d0.2.2.2.2.2.2[k]? = some _› ‹_ = d1› | exact held_no hb ‹d0.2.2.2.2.2.2[k]? = some _› ‹¬ _ = d1›, (Ow.ownl f24_0 rfl mnil)⟩, bd, ⟨⟨rfl, rfl, rfl, rfl, rfl, rfl, rfl, trivial⟩, fun _ h => Inv.sub h [118, 113, 114, 115, 116, 117, 110, 0]⟩⟩
      · -- 0JTF
        refine VC.skip ?_
        refine outBN ?_
        refine outN ?_
        refine VC.reg ?_
        refine VO.y rfl (.add (c := ((k + 1 : Nat) : Int)) rfl rfl (by omega) ⟨bd, bd⟩) ?_
        refine VO.mv ?_
        refine VO.k10 0 1 4 5 7 18 19 20 21 27 ?_
        exact outN ⟨⟨k + 1, b, b_A, b_c, b_m⟩, ⟨by omega, by first | exact held_yes hb ‹d0.2.2.2.2.2.2[k]? = some _› ‹_ = d1› | exact held_no hb ‹d0.2.2.2.2.2.2[k]? = some _› ‹¬ _ = d1›, h_b⟩, bd, ⟨⟨rfl, rfl, rfl, rfl, rfl, rfl, rfl, trivial⟩, fun _ h => Inv.sub h [118, 113, 114, 115, 116, 117, 110, 0]⟩⟩
    · -- 0JF
      refine VC.exit ?_
      refine outE ?_
      refine outE ?_
      refine outBB ?_
      refine outN ?_
      refine VC.rs ?_
      refine VO.mv ?_
      refine VO.as ?_
      refine VO.k8 0 1 4 5 18 19 20 21 ?_
      refine VC.ret ?_
      refine ⟨_, _, res_run (rs := [.tmp 4]) rfl (.tmp rfl .nil), fun W_ hI => out_of (l := [b_m, mone g0 (.cells [Value.bool d0.1, Value.bool d0.2.1, Value.bool d0.2.2.1, Value.int .i64 (d0.2.2.2.1), Value.int .i64 (d0.2.2.2.2.1), Value.slice q12_A5 (d0.2.2.2.2.2.1.1.length) (q12_c5), Value.slice q12_A6 (d0.2.2.2.2.2.1.2.1.length) (q12_c6), Value.slice q12_A7 (d0.2.2.2.2.2.1.2.2.1.length) (q12_c7), Value.slice q12_A8 (d0.2.2.2.2.2.1.2.2.2.length) (q12_c8), Value.slice q12_A9 (d0.2.2.2.2.2.2.length) (q12_c9)].toArray q12_E (0, 0)), q12_n5, q12_n6, q12_n7, q12_n8, q12_n9]) hI [110, 118, 113, 114, 115, 116, 117] rfl rfl (mle_refl _) (fun hS_ => ?_)⟩
      dsimp only [packV]
      have he0 : (heldB d0.2.2.2.2.2.1 d0.2.2.2.2.2.2 d1 : Ty.Den (.sl .byte)) = b := by first | rfl | (rw [hb, List.take_of_length_le (by omega)])
      have hm0_ : (d0 : DdiskDisk) = d0 := by first | rfl | (rw [hb, List.take_of_length_le (by omega)])
      refine ⟨Value.slice b_A (b.length) (b_c), muns [b_m], muns [mone g0 (.cells [Value.bool d0.1, Value.bool d0.2.1, Value.bool d0.2.2.1, Value.int .i64 (d0.2.2.2.1), Value.int .i64 (d0.2.2.2.2.1), Value.slice q12_A5 (d0.2.2.2.2.2.1.1.length) (q12_c5), Value.slice q12_A6 (d0.2.2.2.2.2.1.2.1.length) (q12_c6), Value.slice q12_A7 (d0.2.2.2.2.2.1.2.2.1.length) (q12_c7), Value.slice q12_A8 (d0.2.2.2.2.2.1.2.2.2.length) (q12_c8), Value.slice q12_A9 (d0.2.2.2.2.2.2.length) (q12_c9)].toArray q12_E (0, 0)), q12_n5, q12_n6, q12_n7, q12_n8, q12_n9], ?_, ?_, ?_, ?_⟩
      rotate_left
      · exact Seps.grp (ls := [[b_m], [mone g0 (.cells [Value.bool d0.1, Value.bool d0.2.1, Value.bool d0.2.2.1, Value.int .i64 (d0.2.2.2.1), Value.int .i64 (d0.2.2.2.2.1), Value.slice q12_A5 (d0.2.2.2.2.2.1.1.length) (q12_c5), Value.slice q12_A6 (d0.2.2.2.2.2.1.2.1.length) (q12_c6), Value.slice q12_A7 (d0.2.2.2.2.2.1.2.2.1.length) (q12_c7), Value.slice q12_A8 (d0.2.2.2.2.2.1.2.2.2.length) (q12_c8), Value.slice q12_A9 (d0.2.2.2.2.2.2.length) (q12_c9)].toArray q12_E (0, 0)), q12_n5, q12_n6, q12_n7, q12_n8, q12_n9]]) hS_
      · rw [he0]; exact (Ow.up (OwnL.ow h_b rfl) ((Seps.self hS_ (List.Sublist.cons_cons _ (List.Sublist.cons _ (List.Sublist.cons _ (List.Sublist.cons _ (List.Sublist.cons _ (List.Sublist.cons _ (List.Sublist.cons _ List.Sublist.slnil)))))))).1 _ (.head _)))
      · rw [hm0_]; exact (show Ow (.ptr TdiskDisk) _ _ (_, d0) from (mkP_diskDisk d0.1 d0.2.1 d0.2.2.1 d0.2.2.2.1 d0.2.2.2.2.1 d0.2.2.2.2.2.1.1 d0.2.2.2.2.2.1.2.1 d0.2.2.2.2.2.1.2.2.1 d0.2.2.2.2.2.1.2.2.2 d0.2.2.2.2.2.2 (Seps.self hS_ (List.Sublist.cons _ (List.Sublist.cons_cons _ (List.Sublist.cons_cons _ (List.Sublist.cons_cons _ (List.Sublist.cons_cons _ (List.Sublist.cons_cons _ (List.Sublist.cons_cons _ List.Sublist.slnil)))))))) bdk bdk (OwnL.ow (Ow.ownl q12_5 rfl mnil) rfl) (OwnL.ow (Ow.ownl q12_6 rfl mnil) rfl) (OwnL.ow (Ow.ownl q12_7 rfl mnil) rfl) (OwnL.ow (Ow.ownl q12_8 rfl mnil) rfl) q12_9))
      all_goals (first | rfl | (simp [*]; done))
  · -- A
    intro hJ1
    refine VC.reg ?_
    refine VO.mv ?_
    refine VO.mv ?_
    refine VO.y rfl (.nilp rfl) ?_
    refine VO.y rfl (.fa rfl tst101 rfl) ?_
    rcases (show d1 = (0 : Int) ∨ d1 = (1 : Int) ∨ d1 = (2 : Int) ∨ d1 = (3 : Int) from by first | omega | (simp only [List.length_append, List.length_nil, List.length_cons, List.length_take, List.length_drop] at *; omega)) with hi25 | hi25 | hi25 | hi25
    · -- A0
      refine VO.y rfl (.ixa (i := 0) (o := 5) rfl rfl tar98 hi25 rfl rfl) ?_
      obtain ⟨q26_E, q26_A5, q26_c5, q26_A6, q26_c6, q26_A7, q26_c7, q26_A8, q26_c8, q26_A9, q26_c9, q26_n5, q26_n6, q26_n7, q26_n8, q26_n9, _, q26_S, q26_3, q26_4, q26_5, q26_6, q26_7, q26_8, q26_9⟩ := openP_diskDisk (x0 := d0.1) (x1 := d0.2.1) (x2 := d0.2.2.1) (x3 := d0.2.2.2.1) (x4 := d0.2.2.2.2.1) (x5 := d0.2.2.2.2.2.1.1) (x6 := d0.2.2.2.2.2.1.2.1) (x7 := d0.2.2.2.2.2.1.2.2.1) (x8 := d0.2.2.2.2.2.1.2.2.2) (x9 := d0.2.2.2.2.2.2) h0
      simp only [inK] at q26_3
      simp only [inK] at q26_4
      have q26_r5 := q26_5.rm
      have q26_r6 := q26_6.rm
      have q26_r7 := q26_7.rm
      have q26_r8 := q26_8.rm
      have q26_r9 := q26_9.rm
      refine VO.inv _ (fun _ h => h.parts (i := 1) rfl q26_S [132, 127, 128, 129, 130, 131]) ?_
      refine VO.y rfl (.ld1 132 rfl tk97 rfl (cellsAt_one rfl rfl)) ?_
      refine VO.inv _ (fun _ h => h.nilc 134) ?_
      obtain ⟨mo33, cs33, hM33, hA33, hC33⟩ := (OwnL.nil .byte mnil mnil)
      obtain ⟨all33, hS33, hR33⟩ := Rd.srcI (P := Tryz.prog) ((OwnL.rd (Ow.ownl q26_5 rfl mnil) (mle_refl _) (mle_nil _))) Tryz.underlying97
      refine VO.app 134 rfl rfl rfl tsl97 tz5 rfl rfl hM33 hA33 (hS33 _ 127 rfl) hR33.nice bdm bd (by decide) (fun v33 m33 hN33 => ?_)
      have ho33 : OwnL .byte m33 mnil v33 (d0.2.2.2.2.2.1.1) := OwnL.more hC33 hN33 (All2c.mono hR33 fun _ _ h => Rd.flat rfl h _)
      obtain ⟨A33, c33, rfl, l33, k33⟩ := ho33.slice
      simp only [maxLen] at k33
      refine VO.as ?_
      refine VO.clsP 135 [132, 127, 128, 129, 130, 131] rfl (fun hg35 => (show Ow (.ptr TdiskDisk) _ _ (_, d0) from (mkP_diskDisk d0.1 d0.2.1 d0.2.2.1 d0.2.2.2.1 d0.2.2.2.2.1 d0.2.2.2.2.2.1.1 d0.2.2.2.2.2.1.2.1 d0.2.2.2.2.2.1.2.2.1 d0.2.2.2.2.2.1.2.2.2 d0.2.2.2.2.2.2 hg35 bdk bdk (OwnL.ow (Ow.ownl q26_5 rfl mnil) rfl) (OwnL.ow (Ow.ownl q26_6 rfl mnil) rfl) (OwnL.ow (Ow.ownl q26_7 rfl mnil) rfl) (OwnL.ow (Ow.ownl q26_8 rfl mnil) rfl) q26_9))) (fun mc35 ho35 => ?_)
      refine VO.k4 0 1 4 5 ?_
      exact outN (hJ1 ⟨d0.2.2.2.2.2.1.1, A33, c33, m33, mc35⟩ _ _ ⟨by first | exact (getF0 ‹d1 = (0 : Int)›).symm | exact (getF1 ‹d1 = (1 : Int)›).symm | exact (getF2 ‹d1 = (2 : Int)›).symm | exact (getF3 ‹d1 = (3 : Int)›).symm, ho33, ho35⟩ ⟨⟨rfl, rfl, rfl, rfl, trivial⟩, fun _ h => Inv.sub (Inv.num (Inv.num h 134 110 rfl) 135 111 rfl) [111, 110, 0]⟩)
    · -- A1
      refine VO.y rfl (.ixa (i := 1) (o := 6) rfl rfl tar98 hi25 rfl rfl) ?_
      obtain ⟨q36_E, q36_A5, q36_c5, q36_A6, q36_c6, q36_A7, q36_c7, q36_A8, q36_c8, q36_A9, q36_c9, q36_n5, q36_n6, q36_n7, q36_n8, q36_n9, _, q36_S, q36_3, q36_4, q36_5, q36_6, q36_7, q36_8, q36_9⟩ := openP_diskDisk (x0 := d0.1) (x1 := d0.2.1) (x2 := d0.2.2.1) (x3 := d0.2.2.2.1) (x4 := d0.2.2.2.2.1) (x5 := d0.2.2.2.2.2.1.1) (x6 := d0.2.2.2.2.2.1.2.1) (x7 := d0.2.2.2.2.2.1.2.2.1) (x8 := d0.2.2.2.2.2.1.2.2.2) (x9 := d0.2.2.2.2.2.2) h0
      simp only [inK] at q36_3
      simp only [inK] at q36_4
      have q36_r5 := q36_5.rm
      have q36_r6 := q36_6.rm
      have q36_r7 := q36_7.rm
      have q36_r8 := q36_8.rm
      have q36_r9 := q36_9.rm
      refine VO.inv _ (fun _ h => h.parts (i := 1) rfl q36_S [142, 137, 138, 139, 140, 141]) ?_
      refine VO.y rfl (.ld1 142 rfl tk97 rfl (cellsAt_one rfl rfl)) ?_
      refine VO.inv _ (fun _ h => h.nilc 144) ?_
      obtain ⟨mo43, cs43, hM43, hA43, hC43⟩ := (OwnL.nil .byte mnil mnil)
      obtain ⟨all43, hS43, hR43⟩ := Rd.srcI (P := Tryz.prog) ((OwnL.rd (Ow.ownl q36_6 rfl mnil) (mle_refl _) (mle_nil _))) Tryz.underlying97
      refine VO.app 144 rfl rfl rfl tsl97 tz5 rfl rfl hM43 hA43 (hS43 _ 138 rfl) hR43.nice bdm bd (by decide) (fun v43 m43 hN43 => ?_)
      have ho43 : OwnL .byte m43 mnil v43 (d0.2.2.2.2.2.1.2.1) := OwnL.more hC43 hN43 (All2c.mono hR43 fun _ _ h => Rd.flat rfl h _)
      obtain ⟨A43, c43, rfl, l43, k43⟩ := ho43.slice
      simp only [maxLen] at k43
      refine VO.as ?_
      refine VO.clsP 145 [142, 137, 138, 139, 140, 141] rfl (fun hg45 => (show Ow (.ptr TdiskDisk) _ _ (_, d0) from (mkP_diskDisk d0.1 d0.2.1 d0.2.2.1 d0.2.2.2.1 d0.2.2.2.2.1 d0.2.2.2.2.2.1.1 d0.2.2.2.2.2.1.2.1 d0.2.2.2.2.2.1.2.2.1 d0.2.2.2.2.2.1.2.2.2 d0.2.2.2.2.2.2 hg45 bdk bdk (OwnL.ow (Ow.ownl q36_5 rfl mnil) rfl) (OwnL.ow (Ow.ownl q36_6 rfl mnil) rfl) (OwnL.ow (Ow.ownl q36_7 rfl mnil) rfl) (OwnL.ow (Ow.ownl q36_8 rfl mnil) rfl) q36_9))) (fun mc45 ho45 => ?_)
      refine VO.k4 0 1 4 5 ?_
      exact outN (hJ1 ⟨d0.2.2.2.2.2.1.2.1, A43, c43, m43, mc45⟩ _ _ ⟨by first | exact (getF0 ‹d1 = (0 : Int)›).symm | exact (getF1 ‹d1 = (1 : Int)›).symm | exact (getF2 ‹d1 = (2 : Int)›).symm | exact (getF3 ‹d1 = (3 : Int)›).symm, ho43, ho45⟩ ⟨⟨rfl, rfl, rfl, rfl, trivial⟩, fun _ h => Inv.sub (Inv.num (Inv.num h 144 110 rfl) 145 111 rfl) [111, 110, 0]⟩)
    · -- A2
      refine VO.y rfl (.ixa (i := 2) (o := 7) rfl rfl tar98 hi25 rfl rfl) ?_
      obtain ⟨q46_E, q46_A5, q46_c5, q46_A6, q46_c6, q46_A7, q46_c7, q46_A8, q46_c8, q46_A9, q46_c9, q46_n5, q46_n6, q46_n7, q46_n8, q46_n9, _, q46_S, q46_3, q46_4, q46_5, q46_6, q46_7, q46_8, q46_9⟩ := openP_diskDisk (x0 := d0.1) (x1 := d0.2.1) (x2 := d0.2.2.1) (x3 := d0.2.2.2.1) (x4 := d0.2.2.2.2.1) (x5 := d0.2.2.2.2.2.1.1) (x6 := d0.2.2.2.2.2.1.2.1) (x7 := d0.2.2.2.2.2.1.2.2.1) (x8 := d0.2.2.2.2.2.1.2.2.2) (x9 := d0.2.2.2.2.2.2) h0
      simp only [inK] at q46_3
      simp only [inK] at q46_4
      have q46_r5 := q46_5.rm
      have q46_r6 := q46_6.rm
      have q46_r7 := q46_7.rm
      have q46_r8 := q46_8.rm
      have q46_r9 := q46_9.rm
      refine VO.inv _ (fun _ h => h.parts (i := 1) rfl q46_S [152, 147, 148, 149, 150, 151]) ?_
      refine VO.y rfl (.ld1 152 rfl tk97 rfl (cellsAt_one rfl rfl)) ?_
      refine VO.inv _ (fun _ h => h.nilc 154) ?_
      obtain ⟨mo53, cs53, hM53, hA53, hC53⟩ := (OwnL.nil .byte mnil mnil)
      obtain ⟨all53, hS53, hR53⟩ := Rd.srcI (P := Tryz.prog) ((OwnL.rd (Ow.ownl q46_7 rfl mnil) (mle_refl _) (mle_nil _))) Tryz.underlying97
      refine VO.app 154 rfl rfl rfl tsl97 tz5 rfl rfl hM53 hA53 (hS53 _ 149 rfl) hR53.nice bdm bd (by decide) (fun v53 m53 hN53 => ?_)
      have ho53 : OwnL .byte m53 mnil v53 (d0.2.2.2.2.2.1.2.2.1) := OwnL.more hC53 hN53 (All2c.mono hR53 fun _ _ h => Rd.flat rfl h _)
      obtain ⟨A53, c53, rfl, l53, k53⟩ := ho53.slice
      simp only [maxLen] at k53
      refine VO.as ?_
      refine VO.clsP 155 [152, 147, 148, 149, 150, 151] rfl (fun hg55 => (show Ow (.ptr TdiskDisk) _ _ (_, d0) from (mkP_diskDisk d0.1 d0.2.1 d0.2.2.1 d0.2.2.2.1 d0.2.2.2.2.1 d0.2.2.2.2.2.1.1 d0.2.2.2.2.2.1.2.1 d0.2.2.2.2.2.1.2.2.1 d0.2.2.2.2.2.1.2.2.2 d0.2.2.2.2.2.2 hg55 bdk bdk (OwnL.ow (Ow.ownl q46_5 rfl mnil) rfl) (OwnL.ow (Ow.ownl q46_6 rfl mnil) rfl) (OwnL.ow (Ow.ownl q46_7 rfl mnil) rfl) (OwnL.ow (Ow.ownl q46_8 rfl mnil) rfl) q46_9))) (fun mc55 ho55 => ?_)
      refine VO.k4 0 1 4 5 ?_
      exact outN (hJ1 ⟨d0.2.2.2.2.2.1.2.2.1, A53, c53, m53, mc55⟩ _ _ ⟨by first | exact (getF0 ‹d1 = (0 : Int)›).symm | exact (getF1 ‹d1 = (1 : Int)›).symm | exact (getF2 ‹d1 = (2 : Int)›).symm | exact (getF3 ‹d1 = (3 : Int)›).symm, ho53, ho55⟩ ⟨⟨rfl, rfl, rfl, rfl, trivial⟩, fun _ h => Inv.sub (Inv.num (Inv.num h 154 110 rfl) 155 111 rfl) [111, 110, 0]⟩)
    · -- A3
      refine VO.y rfl (.ixa (i := 3) (o := 8) rfl rfl tar98 hi25 rfl rfl) ?_
      obtain ⟨q56_E, q56_A5, q56_c5, q56_A6, q56_c6, q56_A7, q56_c7, q56_A8, q56_c8, q56_A9, q56_c9, q56_n5, q56_n6, q56_n7, q56_n8, q56_n9, _, q56_S, q56_3, q56_4, q56_5, q56_6, q56_7, q56_8, q56_9⟩ := openP_diskDisk (x0 := d0.1) (x1 := d0.2.1) (x2 := d0.2.2.1) (x3 := d0.2.2.2.1) (x4 := d0.2.2.2.2.1) (x5 := d0.2.2.2.2.2.1.1) (x6 := d0.2.2.2.2.2.1.2.1) (x7 := d0.2.2.2.2.2.1.2.2.1) (x8 := d0.2.2.2.2.2.1.2.2.2) (x9 := d0.2.2.2.2.2.2) h0
      simp only [inK] at q56_3
      simp only [inK] at q56_4
      have q56_r5 := q56_5.rm
      have q56_r6 := q56_6.rm
      have q56_r7 := q56_7.rm
      have q56_r8 := q56_8.rm
      have q56_r9 := q56_9.rm
      refine VO.inv _ (fun _ h => h.parts (i := 1) rfl q56_S [162, 157, 158, 159, 160, 161]) ?_
      refine VO.y rfl (.ld1 162 rfl tk97 rfl (cellsAt_one rfl rfl)) ?_
      refine VO.inv _ (fun _ h => h.nilc 164) ?_
      obtain ⟨mo63, cs63, hM63, hA63, hC63⟩ := (OwnL.nil .byte mnil mnil)
      obtain ⟨all63, hS63, hR63⟩ := Rd.srcI (P := Tryz.prog) ((OwnL.rd (Ow.ownl q56_8 rfl mnil) (mle_refl _) (mle_nil _))) Tryz.underlying97
      refine VO.app 164 rfl rfl rfl tsl97 tz5 rfl rfl hM63 hA63 (hS63 _ 160 rfl) hR63.nice bdm bd (by decide) (fun v63 m63 hN63 => ?_)
      have ho63 : OwnL .byte m63 mnil v63 (d0.2.2.2.2.2.1.2.2.2) := OwnL.more hC63 hN63 (All2c.mono hR63 fun _ _ h => Rd.flat rfl h _)
      obtain ⟨A63, c63, rfl, l63, k63⟩ := ho63.slice
      simp only [maxLen] at k63
      refine VO.as ?_
      refine VO.clsP 165 [162, 157, 158, 159, 160, 161] rfl (fun hg65 => (show Ow (.ptr TdiskDisk) _ _ (_, d0) from (mkP_diskDisk d0.1 d0.2.1 d0.2.2.1 d0.2.2.2.1 d0.2.2.2.2.1 d0.2.2.2.2.2.1.1 d0.2.2.2.2.2.1.2.1 d0.2.2.2.2.2.1.2.2.1 d0.2.2.2.2.2.1.2.2.2 d0.2.2.2.2.2.2 hg65 bdk bdk (OwnL.ow (Ow.ownl q56_5 rfl mnil) rfl) (OwnL.ow (Ow.ownl q56_6 rfl mnil) rfl) (OwnL.ow (Ow.ownl q56_7 rfl mnil) rfl) (OwnL.ow (Ow.ownl q56_8 rfl mnil) rfl) q56_9))) (fun mc65 ho65 => ?_)
      refine VO.k4 0 1 4 5 ?_
      exact outN (hJ1 ⟨d0.2.2.2.2.2.1.2.2.2, A63, c63, m63, mc65⟩ _ _ ⟨by first | exact (getF0 ‹d1 = (0 : Int)›).symm | exact (getF1 ‹d1 = (1 : Int)›).symm | exact (getF2 ‹d1 = (2 : Int)›).symm | exact (getF3 ‹d1 = (3 : Int)›).symm, ho63, ho65⟩ ⟨⟨rfl, rfl, rfl, rfl, trivial⟩, fun _ h => Inv.sub (Inv.num (Inv.num h 164 110 rfl) 165 111 rfl) [111, 110, 0]⟩)
theorem fnOk63 : fnOk Tryz.prog 63 = true := by kernel_rfl
theorem fnOk98 : fnOk Tryz.prog 98 = true := by kernel_rfl
theorem fnOk99 : fnOk Tryz.prog 99 = true := by kernel_rfl
theorem dRead_ok (W : World) {m0 : Mem} (hm : mle (m0) (wm W)) {g0 : Nat} {d0 : DdiskDisk} (h0 : Ow (.ptr TdiskDisk) m0 [.pointer (some ⟨g0, 0, none⟩)] (g0, d0)) (d1 : Int) (h1 : inK .i64 d1) (e0 : okD d0) (e1 : wD d0 ≤ 1000000000000) : CallR Tryz.prog 51 [.pointer (some ⟨g0, 0, none⟩), .int .i64 d1] W (m0) (fun v m' => ∃ (s0 : Value), ∃ (p0 : Mem), ∃ (p1 : Mem), v = .tuple #[s0, .int .i64 ((dRead d0 d1).2)] ∧ Seps m' [p0, p1] ∧ Ow (.sl .byte) p0 [s0] ((dRead d0 d1).1) ∧ Ow (.ptr TdiskDisk) p1 [.pointer (some ⟨g0, 0, none⟩)] (g0, d0)) := by
  have h1' := h1; simp only [inK] at h1'
  refine CallR.ofB (n := 18) hm Tryz.func51 rfl rfl rfl ?_
  refine VC.rs ?_
  refine VO.as ?_
  refine VO.as ?_
  refine VO.k4 0 1 4 5 ?_
  refine VC.seq ?_
  refine VC.rs ?_
  refine VO.mv ?_
  refine VO.call 1 rfl fnOk63 rfl rfl (fun W hW => dWrong_ok W (hW.at (i := 1) rfl) h0) (fun v1 m1 hv1 => ?_)
  obtain ⟨rfl, w1_0⟩ := hv1
  refine VO.as ?_
  refine VO.k5 0 1 4 5 6 ?_
  refine VC.rs ?_
  refine VO.mv ?_
  refine VO.y rfl (.neq rfl rfl) ?_
  refine VO.kp [1, 0] [(1, m1), (0, mout (wm W) (m0))] ?_
  refine VO.k6 0 1 4 5 6 10 ?_
  refine VC.cond rfl (fun hc2 => ?_) (fun hc2 => ?_)
  · -- T
    refine VC.rs ?_
    refine VO.mv ?_
    refine VO.as ?_
    refine VO.as ?_
    refine VO.k6 0 1 4 5 6 10 ?_
    refine VC.ret ?_
    refine outR ?_
    refine ⟨_, _, res_run (rs := [.tmp 4, .tmp 5]) rfl (.tmp rfl (.tmp rfl .nil)), fun W_ hI => out_of (l := [m1]) hI [1] rfl rfl (mle_refl _) (fun hS_ => ?_)⟩
    dsimp only [packV]
    have he0 : ((dRead d0 d1).1 : Ty.Den (.sl .byte)) = [] := by first | rfl | (first | rfl | (simp [dRead, *]; done))
    have hm0_ : (d0 : DdiskDisk) = d0 := by first | rfl | (first | rfl | (simp [dRead, *]; done))
    refine ⟨Value.slice none (0) (0), muns [], muns [m1], ?_, ?_, ?_, ?_⟩
    rotate_left
    · exact Seps.grp (ls := [[], [m1]]) hS_
    · rw [he0]; exact (Ow.nil _ _)
    · rw [hm0_]; exact (Ow.up w1_0 ((Seps.self hS_ (List.Sublist.cons_cons _ List.Sublist.slnil)).1 _ (.head _)))
    all_goals (first | rfl | (first | rfl | (simp [dRead, *]; done)))
  · -- F
    refine VC.skip ?_
    refine outN ?_
    refine VC.seq ?_
    refine VC.rs ?_
    refine VO.mv ?_
    refine VO.callN 103 rfl fnOk98 rfl (fun W hW => dIs_ok W d1 bdk) (fun v3 m3 hv3 => ?_)
    subst hv3
    refine VO.y rfl (.notD rfl) ?_
    refine VO.k7 0 1 4 5 6 10 14 ?_
    refine VC.cond rfl (fun hc4 => ?_) (fun hc4 => ?_)
    · -- FT
      refine VC.rs ?_
      refine VO.as ?_
      refine VO.as ?_
      refine VO.k7 0 1 4 5 6 10 14 ?_
      refine VC.ret ?_
      refine outR ?_
      refine ⟨_, _, res_run (rs := [.tmp 4, .tmp 5]) rfl (.tmp rfl (.tmp rfl .nil)), fun W_ hI => out_of (l := [m1]) hI [1] rfl rfl (mle_refl _) (fun hS_ => ?_)⟩
      dsimp only [packV]
      have he0 : ((dRead d0 d1).1 : Ty.Den (.sl .byte)) = [] := by first | rfl | (first | rfl | (simp [dRead, *]; done))
      have hm0_ : (d0 : DdiskDisk) = d0 := by first | rfl | (first | rfl | (simp [dRead, *]; done))
      refine ⟨Value.slice none (0) (0), muns [], muns [m1], ?_, ?_, ?_, ?_⟩
      rotate_left
      · exact Seps.grp (ls := [[], [m1]]) hS_
      · rw [he0]; exact (Ow.nil _ _)
      · rw [hm0_]; exact (Ow.up w1_0 ((Seps.self hS_ (List.Sublist.cons_cons _ List.Sublist.slnil)).1 _ (.head _)))
      all_goals (first | rfl | (first | rfl | (simp [dRead, *]; done)))
    · -- FF
      refine VC.skip ?_
      refine outN ?_
      refine VC.rs ?_
      refine VO.mv ?_
      refine VO.mv ?_
      refine VO.call 1 rfl fnOk99 rfl rfl (fun W hW => dHeld_ok W (hW.at (i := 1) rfl) w1_0 d1 bdk (by assumption) bd (by first | assumption | (apply Decidable.not_not.1; assumption))) (fun v5 m5 hv5 => ?_)
      obtain ⟨s5_0, p5_0, p5_1, rfl, hS5, f5_0, w5_0⟩ := hv5
      refine VO.inv _ (fun _ h => h.parts (i := 1) rfl hS5 [106, 107]) ?_
      have hfa8 := heldB_size d0.2.2.2.2.2.1 d0.2.2.2.2.2.2 d1
      obtain ⟨A5_0, c5_0, eq5_0, l5_0, k5_0⟩ := f5_0.slice
      subst eq5_0
      simp only [maxLen] at k5_0
      refine VO.as ?_
      refine VO.as ?_
      refine VO.k7 0 1 4 5 6 10 14 ?_
      refine VC.ret ?_
      refine ⟨_, _, res_run (rs := [.tmp 4, .tmp 5]) rfl (.tmp rfl (.tmp rfl .nil)), fun W_ hI => out_of (l := [p5_0, p5_1]) hI [106, 107] rfl rfl (mle_refl _) (fun hS_ => ?_)⟩
      dsimp only [packV]
      have he0 : ((dRead d0 d1).1 : Ty.Den (.sl .byte)) = heldB d0.2.2.2.2.2.1 d0.2.2.2.2.2.2 d1 := by first | rfl | (first | rfl | (simp [dRead, *]; done))
      have hm0_ : (d0 : DdiskDisk) = d0 := by first | rfl | (first | rfl | (simp [dRead, *]; done))
      refine ⟨Value.slice A5_0 ((heldB d0.2.2.2.2.2.1 d0.2.2.2.2.2.2 d1).length) (c5_0), muns [p5_0], muns [p5_1], ?_, ?_, ?_, ?_⟩
      rotate_left
      · exact Seps.grp (ls := [[p5_0], [p5_1]]) hS_
      · rw [he0]; exact (Ow.up (OwnL.ow (Ow.ownl f5_0 rfl mnil) rfl) ((Seps.self hS_ (List.Sublist.cons_cons _ (List.Sublist.cons _ List.Sublist.slnil))).1 _ (.head _)))
      · rw [hm0_]; exact (Ow.up w5_0 ((Seps.self hS_ (List.Sublist.cons _ (List.Sublist.cons_cons _ List.Sublist.slnil))).1 _ (.head _)))
      all_goals (first | rfl | (first | rfl | (simp [dRead, *]; done)))
abbrev TrunRuns : Ty := .pair (.ptr TdiskDisk) (.pair .bool (.sl TRun))
abbrev DrunRuns := (Nat × DdiskDisk) × Bool × (List DRun)
theorem open_runRuns {m : Mem} {cs : List Value} {x0 : Nat × DdiskDisk} {x1 : Bool} {x2 : List DRun} (h : Rd TrunRuns m cs (x0, x1, x2)) : ∃ (A2 : Option Addr), ∃ (c2 : Nat), cs = [(.pointer (some ⟨x0.1, 0, none⟩) : Value), .bool x1, .slice A2 x2.length c2] ∧ Rd (.ptr TdiskDisk) m [.pointer (some ⟨x0.1, 0, none⟩)] x0 ∧ Rd (.sl TRun) m [.slice A2 x2.length c2] x2 := by
  obtain ⟨p1, q1, rfl, u1, w1⟩ := Rd.pair h
  have z2 := u1
  obtain ⟨rfl, _⟩ := u1
  obtain ⟨p3, q3, rfl, u3, w3⟩ := Rd.pair w1
  obtain rfl := (show _ = _ from u3)
  have z5 := w3
  obtain ⟨A5, c5, rfl, _⟩ := Rd.slice1 w3
  exact ⟨A5, c5, rfl, z2, z5⟩
theorem openO_runRuns {m : Mem} {cs : List Value} {x0 : Nat × DdiskDisk} {x1 : Bool} {x2 : List DRun} (h : Ow TrunRuns m cs (x0, x1, x2)) : ∃ (A2 : Option Addr), ∃ (c2 : Nat), ∃ (n0 : Mem), ∃ (n2 : Mem), cs = [(.pointer (some ⟨x0.1, 0, none⟩) : Value), .bool x1, .slice A2 x2.length c2] ∧ Seps m [n0, n2] ∧ Ow (.ptr TdiskDisk) n0 [.pointer (some ⟨x0.1, 0, none⟩)] x0 ∧ Ow (.sl TRun) n2 [.slice A2 x2.length c2] x2 := by
  obtain ⟨p1, q1, ma1, mb1, rfl, dj1, la1, lb1, u1, w1⟩ := Ow.pair h
  have z2 := u1
  obtain ⟨rfl, _⟩ := u1
  obtain ⟨p3, q3, ma3, mb3, rfl, dj3, la3, lb3, u3, w3⟩ := Ow.pair w1
  obtain rfl := (show _ = _ from u3)
  have z5 := w3
  obtain ⟨A5, c5, rfl, _⟩ := Ow.slice1 w3
  exact ⟨A5, c5, _, _, rfl, (Seps.app dj1 la1 lb1 (Seps.one (mle_refl _)) (Seps.app dj3 la3 lb3 (Seps.nil _) (Seps.one (mle_refl _)))), z2, z5⟩
theorem mkO_runRuns {m : Mem} {n0 n2 : Mem} (x0 : Nat × DdiskDisk) (x1 : Bool) (x2 : List DRun) (hS : Seps m [n0, n2]) {v0 : Value} (h0 : Ow (.ptr TdiskDisk) n0 [v0] x0) {v2 : Value} (h2 : Ow (.sl TRun) n2 [v2] x2) : Ow TrunRuns m [v0, .bool x1, v2] (x0, x1, x2) := by
  obtain ⟨e1, la1, lb1, Sa1, Sb1⟩ := Seps.cut (l := [n0]) (r := [n2]) hS
  obtain ⟨e2, la2, lb2, Sa2, Sb2⟩ := Seps.cut (l := []) (r := [n2]) Sb1
  exact (Ow.mkPair (c1 := [_]) e1 la1 lb1 (h0.up (Sa1.1 _ (.head _))) (Ow.mkPair (c1 := [_]) e2 la2 lb2 (show Ow .bool _ [_] _ from rfl) (h2.up (Sb2.1 _ (.head _)))))
theorem openP_runRuns {m : Mem} {cs : List Value} {g : Nat} {x0 : Nat × DdiskDisk} {x1 : Bool} {x2 : List DRun} (h : Ow (.ptr TrunRuns) m cs (g, (x0, x1, x2))) : ∃ (E : TypeId), ∃ (A2 : Option Addr), ∃ (c2 : Nat), ∃ (n0 : Mem), ∃ (n2 : Mem), cs = [.pointer (some ⟨g, 0, none⟩)] ∧ Seps m [mone g (.cells [(.pointer (some ⟨x0.1, 0, none⟩) : Value), .bool x1, .slice A2 x2.length c2].toArray E (0, 0)), n0, n2] ∧ Ow (.ptr TdiskDisk) n0 [.pointer (some ⟨x0.1, 0, none⟩)] x0 ∧ Ow (.sl TRun) n2 [.slice A2 x2.length c2] x2 := by
  obtain ⟨rfl, rc, E, m1, hd, l0, l1, h1⟩ := Ow.opnP h
  obtain ⟨A2, c2, n0, n2, rfl, hS, f0, f2⟩ := openO_runRuns h1
  exact ⟨E, A2, c2, n0, n2, rfl, Seps.app hd l0 l1 (Seps.one (mle_refl _)) hS, f0, f2⟩
theorem mkP_runRuns {m : Mem} {g : Nat} {E : TypeId} {n0 n2 : Mem}{v0 : Value}{v2 : Value} (x0 : Nat × DdiskDisk) (x1 : Bool) (x2 : List DRun) (hS : Seps m [mone g (.cells [v0, .bool x1, v2].toArray E (0, 0)), n0, n2]) (h0 : Ow (.ptr TdiskDisk) n0 [v0] x0) (h2 : Ow (.sl TRun) n2 [v2] x2) : Ow (.ptr TrunRuns) m [.pointer (some ⟨g, 0, none⟩)] (g, (x0, x1, x2)) :=
  Ow.clsP hS fun hS => mkO_runRuns x0 x1 x2 hS h0 h2
abbrev TrunRuns0 : Ty := .pair .addr (.pair .bool (.sl TRun))
abbrev DrunRuns0 := (Option Nat) × Bool × (List DRun)
theorem openO_runRuns0 {m : Mem} {cs : List Value} {x0 : Option Nat} {x1 : Bool} {x2 : List DRun} (h : Ow TrunRuns0 m cs (x0, x1, x2)) : ∃ (A2 : Option Addr), ∃ (c2 : Nat), ∃ (n2 : Mem), cs = [(.pointer (x0.map fun g => ⟨g, 0, none⟩) : Value), .bool x1, .slice A2 x2.length c2] ∧ Seps m [n2] ∧ Ow (.sl TRun) n2 [.slice A2 x2.length c2] x2 := by
  obtain ⟨p1, q1, ma1, mb1, rfl, dj1, la1, lb1, u1, w1⟩ := Ow.pair h
  obtain rfl := (show _ = _ from u1)
  obtain ⟨p3, q3, ma3, mb3, rfl, dj3, la3, lb3, u3, w3⟩ := Ow.pair w1
  obtain rfl := (show _ = _ from u3)
  have z5 := w3
  obtain ⟨A5, c5, rfl, _⟩ := Ow.slice1 w3
  exact ⟨A5, c5, _, rfl, (Seps.app dj1 la1 lb1 (Seps.nil _) (Seps.app dj3 la3 lb3 (Seps.nil _) (Seps.one (mle_refl _)))), z5⟩
theorem mkO_runRuns0 {m : Mem} {n2 : Mem} (x0 : Option Nat) (x1 : Bool) (x2 : List DRun) (hS : Seps m [n2]) {v2 : Value} (h2 : Ow (.sl TRun) n2 [v2] x2) : Ow TrunRuns0 m [.pointer (x0.map fun g => ⟨g, 0, none⟩), .bool x1, v2] (x0, x1, x2) := by
  obtain ⟨e1, la1, lb1, Sa1, Sb1⟩ := Seps.cut (l := []) (r := [n2]) hS
  obtain ⟨e2, la2, lb2, Sa2, Sb2⟩ := Seps.cut (l := []) (r := [n2]) Sb1
  exact (Ow.mkPair (c1 := [_]) e1 la1 lb1 (show Ow .addr _ [_] _ from rfl) (Ow.mkPair (c1 := [_]) e2 la2 lb2 (show Ow .bool _ [_] _ from rfl) (h2.up (Sb2.1 _ (.head _)))))
theorem openP_runRuns0 {m : Mem} {cs : List Value} {g : Nat} {x0 : Option Nat} {x1 : Bool} {x2 : List DRun} (h : Ow (.ptr TrunRuns0) m cs (g, (x0, x1, x2))) : ∃ (E : TypeId), ∃ (A2 : Option Addr), ∃ (c2 : Nat), ∃ (n2 : Mem), cs = [.pointer (some ⟨g, 0, none⟩)] ∧ Seps m [mone g (.cells [(.pointer (x0.map fun g => ⟨g, 0, none⟩) : Value), .bool x1, .slice A2 x2.length c2].toArray E (0, 0)), n2] ∧ Ow (.sl TRun) n2 [.slice A2 x2.length c2] x2 := by
  obtain ⟨rfl, rc, E, m1, hd, l0, l1, h1⟩ := Ow.opnP h
  obtain ⟨A2, c2, n2, rfl, hS, f2⟩ := openO_runRuns0 h1
  exact ⟨E, A2, c2, n2, rfl, Seps.app hd l0 l1 (Seps.one (mle_refl _)) hS, f2⟩
theorem mkP_runRuns0 {m : Mem} {g : Nat} {E : TypeId} {n2 : Mem}{v2 : Value} (x0 : Option Nat) (x1 : Bool) (x2 : List DRun) (hS : Seps m [mone g (.cells [.pointer (x0.map fun g => ⟨g, 0, none⟩), .bool x1, v2].toArray E (0, 0)), n2]) (h2 : Ow (.sl TRun) n2 [v2] x2) : Ow (.ptr TrunRuns0) m [.pointer (some ⟨g, 0, none⟩)] (g, (x0, x1, x2)) :=
  Ow.clsP hS fun hS => mkO_runRuns0 x0 x1 x2 hS h2
theorem fnOk21 : fnOk Tryz.prog 21 = true := by kernel_rfl
theorem fnOk51 : fnOk Tryz.prog 51 = true := by kernel_rfl
theorem fnOk52 : fnOk Tryz.prog 52 = true := by kernel_rfl
theorem fnOk55 : fnOk Tryz.prog 55 = true := by kernel_rfl
theorem fnOk85 : fnOk Tryz.prog 85 = true := by kernel_rfl
theorem tk44 : tk Tryz.prog 44 = some none := by kernel_rfl
theorem tk45 : tk Tryz.prog 45 = some none := by kernel_rfl
theorem tst47 : tst Tryz.prog 47 = some [(0, 1), (1, 1), (2, 1)] := by kernel_rfl
theorem tz47 : tz Tryz.prog 47 = some [.pointer none, .bool false, .slice none 0 0] := by kernel_rfl
theorem uNone_ok (W : World) {l_ : List DRun} {br_ : Bool} {D_ : DdiskDisk} {gd_ : Nat} {m0 : Mem} (hm : mle (m0) (wm W)) {g0 : Nat} (h0 : Ow (.ptr TrunRuns) m0 [.pointer (some ⟨g0, 0, none⟩)] (g0, ((gd_, D_), br_, l_))) : CallR Tryz.prog 55 [.pointer (some ⟨g0, 0, none⟩)] W (m0) (fun v m' => v = .bool (decide (False)) ∧ Ow (.ptr TrunRuns) m' [.pointer (some ⟨g0, 0, none⟩)] (g0, ((gd_, D_), br_, l_))) := by
  refine CallR.ofB (n := 12) hm Tryz.func55 rfl rfl rfl ?_
  refine VC.rs ?_
  refine VO.as ?_
  refine VO.k2 0 2 ?_
  refine VC.rs ?_
  refine VO.mv ?_
  refine VO.y rfl (.pnil rfl rfl Tryz.underlying38 rfl) ?_
  refine VO.mv ?_
  refine VO.gy rfl ⟨_, rfl, rfl⟩ (.mv rfl) ?_
  refine VO.gy rfl ⟨_, rfl, rfl⟩ (.nilp rfl) ?_
  refine VO.gy rfl ⟨_, rfl, rfl⟩ (.fa rfl tst47 rfl) ?_
  obtain ⟨q1_E, q1_A2, q1_c2, q1_n0, q1_n2, _, q1_S, q1_0, q1_2⟩ := openP_runRuns (x0 := (gd_, D_)) (x1 := br_) (x2 := l_) h0
  dsimp only at q1_0
  have q1_r2 := q1_2.rm
  refine VO.inv _ (fun _ h => h.parts (i := 1) rfl q1_S [104, 102, 103]) ?_
  refine VO.gy rfl ⟨_, rfl, rfl⟩ (.ld1 104 rfl tk44 rfl (cellsAt_one rfl rfl)) ?_
  refine VO.gy rfl ⟨_, rfl, rfl⟩ (.pnil rfl rfl Tryz.underlying44 rfl) ?_
  refine VO.y rfl (.pF rfl rfl) ?_
  refine VO.as ?_
  refine VO.clsP 105 [104, 102, 103] rfl (fun hg5 => (mkP_runRuns (gd_, D_) br_ l_ hg5 q1_0 q1_2)) (fun mc5 ho5 => ?_)
  refine VO.k2 0 2 ?_
  refine VC.ret ?_
  refine ⟨_, _, res_run (rs := [.tmp 2]) rfl (.tmp rfl .nil), fun W_ hI => out_of (l := [mc5]) hI [105] rfl rfl (mle_refl _) (fun hS_ => ?_)⟩
  dsimp only [packV]
  have hm0_ : (((gd_, D_), br_, l_) : DrunRuns) = ((gd_, D_), br_, l_) := by first | rfl | (simp [*]; done)
  refine ⟨?_, ?_⟩
  rotate_left
  · rw [hm0_]; exact (Ow.up ho5 (hS_.1 _ (.head _)))
  all_goals (first | rfl | (simp [*]; done))
theorem uEnd_ok (W : World) {l_ : List DRun} {br_ : Bool} {D_ : DdiskDisk} {gd_ : Nat} {m0 : Mem} (hm : mle (m0) (wm W)) {g0 : Nat} (h0 : Ow (.ptr TrunRuns) m0 [.pointer (some ⟨g0, 0, none⟩)] (g0, ((gd_, D_), br_, l_))) (e0 : okU l_) : CallR Tryz.prog 21 [.pointer (some ⟨g0, 0, none⟩)] W (m0) (fun v m' => v = .int .i64 (endR l_) ∧ Ow (.ptr TrunRuns) m' [.pointer (some ⟨g0, 0, none⟩)] (g0, ((gd_, D_), br_, l_))) := by
  have hll := okU_len e0
  refine CallR.ofB (n := 26) hm Tryz.func21 rfl rfl rfl ?_
  refine VC.rs ?_
  refine VO.as ?_
  refine VO.k2 0 2 ?_
  refine VC.seq ?_
  refine VC.rs ?_
  refine VO.mv ?_
  refine VO.call 1 rfl fnOk55 rfl rfl (fun W hW => uNone_ok W (hW.at (i := 1) rfl) h0) (fun v1 m1 hv1 => ?_)
  try dsimp only at hv1
  obtain ⟨rfl, w1_0⟩ := hv1
  refine VO.mv ?_
  refine VO.dec (t := 5) rfl (fun hc2 => ?_) (fun hc2 => ?_)
  · -- T
    exact hc2.elim
  · -- F
    refine VO.gy rfl ⟨_, rfl, rfl⟩ (.mv rfl) ?_
    refine VO.gy rfl ⟨_, rfl, rfl⟩ (.nilp rfl) ?_
    refine VO.gy rfl ⟨_, rfl, rfl⟩ (.fa rfl tst47 rfl) ?_
    obtain ⟨q3_E, q3_A2, q3_c2, q3_n0, q3_n2, _, q3_S, q3_0, q3_2⟩ := openP_runRuns (x0 := (gd_, D_)) (x1 := br_) (x2 := l_) w1_0
    dsimp only at q3_0
    have q3_r2 := q3_2.rm
    refine VO.inv _ (fun _ h => h.parts (i := 1) rfl q3_S [106, 104, 105]) ?_
    refine VO.gy rfl ⟨_, rfl, rfl⟩ (.ld1 106 rfl tk45 rfl (cellsAt_one rfl rfl)) ?_
    refine VO.gy rfl ⟨_, rfl, rfl⟩ (.lenS rfl tsl45) ?_
    refine VO.gy rfl ⟨_, rfl, rfl⟩ (.eql rfl rfl) ?_
    refine VO.y rfl (.pF rfl rfl) ?_
    refine VO.clsP 107 [106, 104, 105] rfl (fun hg7 => (mkP_runRuns (gd_, D_) br_ l_ hg7 q3_0 q3_2)) (fun mc7 ho7 => ?_)
    refine VO.k3 0 2 12 ?_
    refine VC.cond rfl (fun hc8 => ?_) (fun hc8 => ?_)
    · -- FT
      refine VC.rs ?_
      refine VO.as ?_
      refine VO.kp [107, 0] [(107, mc7), (0, mout (wm W) (m0))] ?_
      refine VO.k3 0 2 12 ?_
      refine VC.ret ?_
      refine outR ?_
      refine ⟨_, _, res_run (rs := [.tmp 2]) rfl (.tmp rfl .nil), fun W_ hI => out_of (l := [mc7]) hI [107] rfl rfl (mle_refl _) (fun hS_ => ?_)⟩
      dsimp only [packV]
      have hm0_ : (((gd_, D_), br_, l_) : DrunRuns) = ((gd_, D_), br_, l_) := by first | rfl | (simp [*]; done)
      refine ⟨?_, ?_⟩
      rotate_left
      · rw [hm0_]; exact (Ow.up ho7 (hS_.1 _ (.head _)))
      all_goals (first | rfl | (first | exact congrArg (Value.int _) (endR_at ‹l_[_]? = some _› (by omega)).symm | exact congrArg (Value.int _) (endR_nil (by omega)).symm | exact congrArg (Value.int _) (endR_nil (not_not_intro (by assumption))).symm))
    · -- FF
      refine VC.skip ?_
      refine outN ?_
      refine VC.seq ?_
      obtain ⟨q9_E, q9_A2, q9_c2, q9_n0, q9_n2, _, q9_S, q9_0, q9_2⟩ := openP_runRuns (x0 := (gd_, D_)) (x1 := br_) (x2 := l_) ho7
      dsimp only at q9_0
      have q9_r2 := q9_2.rm
      refine VC.inv _ (fun _ h => h.parts (i := 107) rfl q9_S [112, 110, 111]) ?_
      refine VC.regD _ 10 [(0, true), (1, true), (2, true), (3, true), (4, true), (5, true), (6, true), (7, true), (8, true), (9, true)] follows (by kernel_rfl) (fun _ h => h.sub [112, 110, 111, 0]) ?_
      refine VD.y rfl rfl (.inl rfl) (.mv rfl) ?_
      refine VD.y rfl rfl (.inl rfl) (.nilp rfl) ?_
      refine VD.y rfl rfl (.inl rfl) (.fa rfl tst47 rfl) ?_
      refine VD.y rfl rfl (.inl rfl) (.ld1 112 rfl tk45 rfl (cellsAt_one rfl rfl)) ?_
      refine VD.y rfl rfl (.inl rfl) (.mv rfl) ?_
      refine VD.y rfl rfl (.inl rfl) (.nilp rfl) ?_
      refine VD.y rfl rfl (.inl rfl) (.fa rfl tst47 rfl) ?_
      refine VD.y rfl rfl (.inl rfl) (.ld1 112 rfl tk45 rfl (cellsAt_one rfl rfl)) ?_
      refine VD.y rfl rfl (.inl rfl) (.lenS rfl tsl45) ?_
      refine VD.y rfl rfl (.inl rfl) (.sub rfl rfl rfl ⟨bd, bd⟩) ?_
      refine VD.nil rfl ?_ rfl
      obtain ⟨x13, hx13⟩ : ∃ z_, (l_)[(((l_.length : Nat) : Int) - 1).toNat]? = some z_ := ⟨_, List.getElem?_eq_getElem bd⟩
      obtain ⟨gg13, oo13, ec13, ea13, hce13, hre13⟩ := (Ow.rd q9_2 (mle_refl _)).elem hx13
      cases ea13
      obtain ⟨q13_A2, q13_c2, rfl, q13_0, q13_1, q13_2⟩ := open_Run (x0 := x13.1) (x1 := x13.2.1) (x2 := x13.2.2) hre13
      simp only [inK] at q13_0
      simp only [inK] at q13_1
      have q13_r2 := Rd.room q13_2
      refine VO.y rfl (.ixI ((((l_.length : Nat) : Int) - 1).toNat) rfl rfl tsl45 bd bd) ?_
      refine VO.y rfl (.fa rfl tst92 rfl) ?_
      refine VO.y rfl (.ld1 111 rfl tk3 rfl (hce13.at1 (j := 1) rfl)) ?_
      refine VO.as ?_
      refine VO.clsP 114 [112, 110, 111] rfl (fun hg14 => (mkP_runRuns (gd_, D_) br_ l_ hg14 q9_0 q9_2)) (fun mc14 ho14 => ?_)
      refine VO.kp [114, 0] [(114, mc14), (0, mout (wm W) (m0))] ?_
      refine VO.k3 0 2 12 ?_
      refine outN ?_
      refine VC.ret ?_
      refine ⟨_, _, res_run (rs := [.tmp 2]) rfl (.tmp rfl .nil), fun W_ hI => out_of (l := [mc14]) hI [114] rfl rfl (mle_refl _) (fun hS_ => ?_)⟩
      dsimp only [packV]
      have hm0_ : (((gd_, D_), br_, l_) : DrunRuns) = ((gd_, D_), br_, l_) := by first | rfl | (simp [*]; done)
      refine ⟨?_, ?_⟩
      rotate_left
      · rw [hm0_]; exact (Ow.up ho14 (hS_.1 _ (.head _)))
      all_goals (first | rfl | (first | exact congrArg (Value.int _) (endR_at ‹l_[_]? = some _› (by omega)).symm | exact congrArg (Value.int _) (endR_nil (by omega)).symm | exact congrArg (Value.int _) (endR_nil (not_not_intro (by assumption))).symm))
theorem uCopied_ok (W : World) {v0 : List Value} {d0 : DRun} (h0 : Rd TRun (wm W) v0 d0) (e0 : d0.2.2.length ≤ 3518437208800) : CallR Tryz.prog 85 [.agg v0.toArray] W (mnil) (fun v m' => ∃ (s0 : List Value), v = .agg s0.toArray ∧ Ow TRun m' s0 (d0)) := by
  obtain ⟨p0_A2, p0_c2, rfl, p0_0, p0_1, p0_2⟩ := open_Run (x0 := d0.1) (x1 := d0.2.1) (x2 := d0.2.2) h0
  simp only [inK] at p0_0
  simp only [inK] at p0_1
  have p0_r2 := Rd.room p0_2
  refine CallR.ofA (n := 8) Tryz.func85 rfl rfl rfl ?_
  refine VC.rs ?_
  refine VO.box (cs := [Value.int .i64 (d0.1), Value.int .i64 (d0.2.1), Value.slice p0_A2 (d0.2.2.length) (p0_c2)]) 102 rfl rfl rfl (fun g1 => ?_)
  refine VO.alloc 104 rfl tz92 (fun g3 => ?_)
  refine VO.k3 0 1 2 ?_
  refine VC.rs ?_
  refine VO.y rfl (.fa rfl tst92 rfl) ?_
  refine VO.y rfl (.ld1 102 rfl tk34 rfl (cellsAt_one rfl rfl)) ?_
  refine VO.callN 105 rfl fnOk127 rfl (fun W hW => clone_ok W (Rd.mono p0_2 (hW.at (i := 0) rfl)) bd) (fun v5 m5 hv5 => ?_)
  obtain ⟨s5_0, rfl, f5_0⟩ := hv5
  obtain ⟨A5_0, c5_0, eq5_0, l5_0, k5_0⟩ := f5_0.slice
  subst eq5_0
  simp only [maxLen] at k5_0
  refine VO.y rfl (.fa rfl tst92 rfl) ?_
  refine VO.store (k := 1) (c' := [Value.int .i64 (d0.1), Value.int .i64 (d0.2.1), Value.slice A5_0 (d0.2.2.length) (c5_0)]) 102 rfl rfl (.inr ⟨tk34, rfl⟩) rfl rfl rfl rfl rfl ?_
  refine VO.k3 0 1 2 ?_
  refine VC.rs ?_
  refine VO.y rfl (.ldA 102 rfl tk92 rfl (cellsAt_one rfl rfl)) ?_
  refine VO.store (k := 3) (c' := [Value.int .i64 (d0.1), Value.int .i64 (d0.2.1), Value.slice A5_0 (d0.2.2.length) (c5_0)]) 104 rfl rfl (.inl tk92) rfl rfl rfl rfl rfl ?_
  refine VO.kp [105, 104, 102, 0] [(105, m5), (104, mone g3 (.cells [Value.int .i64 (d0.1), Value.int .i64 (d0.2.1), Value.slice A5_0 (d0.2.2.length) (c5_0)].toArray 92 (0, 0))), (102, mone g1 (.cells [Value.int .i64 (d0.1), Value.int .i64 (d0.2.1), Value.slice A5_0 (d0.2.2.length) (c5_0)].toArray 92 (0, 0))), (0, wm W)] ?_
  refine VO.k3 0 1 2 ?_
  refine VC.ret ?_
  refine ⟨_, _, res_run (rs := [.cell 2 92]) rfl (.agg 104 rfl tk92 rfl ⟨_, _, _, mone_self _ _, Nat.le_of_ble_eq_true rfl, rfl⟩ .nil), fun W_ hI => out_of (l := [m5]) hI [105] rfl rfl (mle_refl _) (fun hS_ => ?_)⟩
  dsimp only [packV]
  have he0 : (d0 : Ty.Den TRun) = d0 := by first | rfl | (simp [*]; done)
  refine ⟨[Value.int .i64 (d0.1), Value.int .i64 (d0.2.1), Value.slice A5_0 (d0.2.2.length) (c5_0)], ?_, ?_⟩
  rotate_left
  · rw [he0]; exact (show Ow TRun _ _ d0 from (mkO_Run d0.1 d0.2.1 d0.2.2 hS_ bdk bdk (OwnL.ow (Ow.ownl f5_0 rfl mnil) rfl)))
  all_goals (first | rfl | (simp [*]; done))
def bwE (mf : Mem) (l : List DRun) (a : Int) (args : List Value) (mr : Mem) : Prop := 0 ≤ a ∧ a < l.length ∧ mr = mnil ∧ ∃ x cs, l[a.toNat]? = some x ∧ args = [.int .i64 a, .agg cs.toArray] ∧ Rd TRun mf cs x
def bwN (a : Int) : Int := a - 1
def bwD (a : Int) : Prop := a < 0
theorem bw1_ok {l : List DRun} {gc : Nat} {v : Value} {mf : Mem} (hl : Rd (.sl TRun) mf [v] l) :
    IterR Tryz.prog 129 [.pointer (some ⟨gc, 0, none⟩)] mf (mone gc (.cells [v].toArray 45 (0, 0))) (bwE mf l) bwN ((l.length : Int) - 1) bwD := by
  intro G M I X lp W g0 h0 hm hdj hmf hdf hy
  obtain ⟨A, c, rfl, l0, k0⟩ := hl.slice
  simp only [maxLen] at k0
  refine CallR.ofX (n := 19) Tryz.func129 rfl rfl rfl hm ?_
  refine VX.parts 1 [1, 2] (l := [M g0, mone gc (.cells [(.slice A l.length c : Value)].toArray 45 (0, 0))]) rfl ⟨fun x hx => ?_, List.pairwise_cons.2 ⟨fun x hx => ?_, List.pairwise_singleton _ _⟩⟩ ?_
  · simp only [List.mem_cons, List.not_mem_nil, or_false] at hx
    rcases hx with rfl | rfl
    · exact mle_un_left _ _
    · exact mle_un_right hdj
  · simp only [List.mem_cons, List.not_mem_nil, or_false] at hx
    subst hx; exact hdj
  refine VX.rs ?_
  refine VO.y rfl (.ld1 2 rfl (by kernel_rfl) rfl (cellsAt_one rfl rfl)) ?_
  refine VO.y rfl (.lenS rfl tsl45) ?_
  refine VO.y rfl (.sub (c := (l.length : Int) - 1) rfl rfl rfl ⟨by omega, by omega⟩) ?_
  refine VO.as ?_
  refine VO.k3 0 1 3 ?_
  refine VX.block ?_
  refine VX.loop (G := Int × G) (fun s => [(0, .func (.yield lp) #[] #[]), (1, .pointer (some ⟨gc, 0, none⟩)), (3, .int .i64 s.1)]) (fun s => [(1, M s.2), (2, mone gc (.cells [(.slice A l.length c : Value)].toArray 45 (0, 0))), (0, mout (wm W) (mun (M g0) (mone gc (.cells [(.slice A l.length c : Value)].toArray 45 (0, 0)))))]) (fun s => I s.1 s.2 ∧ -1 ≤ s.1 ∧ s.1 < l.length) (fun s => (s.1 + 1).toNat) ((l.length : Int) - 1, g0) ⟨h0, by dsimp only; omega, by dsimp only; omega⟩ ⟨⟨rfl, rfl, rfl, trivial⟩, fun _ h => h.sub [1, 2, 0]⟩ ?_
  rintro ⟨a, g⟩ ⟨hI, ha, hal⟩
  dsimp only at hI ha hal
  show VX _ _ _ _ _ _ _ [(0, .func (.yield lp) #[] #[]), (1, .pointer (some ⟨gc, 0, none⟩)), (3, .int .i64 a)] [(1, M g), (2, mone gc (.cells [(.slice A l.length c : Value)].toArray 45 (0, 0))), (0, mout (wm W) (mun (M g0) (mone gc (.cells [(.slice A l.length c : Value)].toArray 45 (0, 0)))))]
  refine VX.seq ?_
  refine VX.rs ?_
  refine VO.mv ?_
  refine VO.y rfl (.geq rfl rfl) ?_
  refine VO.k4 0 1 3 8 ?_
  refine VX.cond rfl (fun hc => ?_) (fun hc => ?_)
  · refine VX.skip (outN ?_)
    refine VX.seq (VX.block ?_)
    refine VX.seq ?_
    obtain ⟨x, hx⟩ : ∃ x, l[a.toNat]? = some x := ⟨_, List.getElem?_eq_getElem (by omega)⟩
    obtain ⟨gg, oo, ec, ea, hce, hre⟩ := hl.elem hx
    cases ea
    refine VX.regL _ (hix := ?_) (VL.pre (r := [6, 7]) 6 (by kernel_rfl) ?_)
    · kernel_rfl
    refine VO.mv ?_
    refine VO.mv ?_
    refine VO.y rfl (.ld1 2 rfl (by kernel_rfl) rfl (cellsAt_one rfl rfl)) ?_
    refine VO.mv ?_
    refine VO.y rfl (.ixI a.toNat rfl rfl tsl45 (by omega) (by omega)) ?_
    refine VO.y rfl (.ldA 0 rfl (by kernel_rfl) rfl (hce.mono (mle_out hmf hdf))) ?_
    refine VO.nil ?_
    refine VL.yield 1 rfl rfl (.inl rfl) rfl rfl rfl (fun W' hW => by have h_ := hy a g _ mnil W' hI ⟨hc, hal, rfl, x, ec, hx, rfl, hre⟩ ((hW.nilc 9).sub [0, 1, 9]).three; rw [mun_nil] at h_; exact h_) (fun v m' hv => ?_)
    obtain ⟨g', rfl, hv⟩ := hv
    rcases hv with ⟨rfl, hI'⟩ | ⟨rfl, hX⟩
    · refine VL.post 7 rfl (by kernel_rfl) ?_
      refine VO.y rfl (.not rfl) ?_
      refine VO.k4 0 1 3 18 ?_
      refine outN (VX.condF rfl ?_)
      refine VX.skip (outBN (outN ?_))
      refine VX.reg ?_
      refine VO.mv ?_
      refine VO.y rfl (.sub (c := bwN a) rfl rfl rfl ⟨by unfold bwN; omega, by unfold bwN; omega⟩) ?_
      refine VO.as ?_
      refine VO.nil ?_
      refine outN ⟨rfl, (bwN a, g'), ⟨hI', by unfold bwN; dsimp only; omega, by unfold bwN; dsimp only; omega⟩, by unfold bwN; dsimp only; omega, ⟨⟨rfl, rfl, rfl, trivial⟩, fun _ h => h.sub [1, 2, 0]⟩⟩
    · refine VL.post 7 rfl (by kernel_rfl) ?_
      refine VO.y rfl (.not rfl) ?_
      refine VO.k4 0 1 3 18 ?_
      refine outN (VX.condT rfl ?_)
      refine VX.ret ?_
      refine outBR (outR (outR (outBR ?_)))
      refine ⟨_, _, res_run (rs := []) rfl .nil, fun W_ hI_ => out_of (l := [M g']) hI_ [1] rfl rfl (mle_refl _) (fun hS_ => ⟨g', mun_nil _, .inl hX⟩)⟩
  · refine VX.exit (outE (outE (outBB ?_)))
    refine ⟨_, _, res_run (rs := []) rfl .nil, fun W_ hI_ => out_of (l := [M g]) hI_ [1] rfl rfl (mle_refl _) (fun hS_ => ⟨g, mun_nil _, .inr ⟨a, hI, by unfold bwD; omega⟩⟩)⟩
theorem bw_ok (W : World) {mf : Mem} (hmf : mle mf (wm W)) {v0 : Value} {d0 : List DRun} (h0 : Rd (.sl TRun) mf [v0] d0) : CallR Tryz.prog 89 [v0] W mnil (fun v m' => ∃ caps, v = .func (.func 129) #[] (List.toArray caps) ∧ IterR Tryz.prog 129 caps mf m' (bwE mf d0) bwN ((d0.length : Int) - 1) bwD) := by
  obtain ⟨A, c, rfl, _, _⟩ := h0.slice
  refine CallR.ofA (n := 4) Tryz.func89 rfl rfl rfl ?_
  refine VC.rs ?_
  refine VO.box (cs := [(.slice A d0.length c : Value)]) 101 rfl rfl rfl (fun g1 => ?_)
  refine VO.as ?_
  refine VO.k1 1 ?_
  refine VC.rs ?_
  refine VO.y rfl (.mkf rfl) ?_
  refine VO.as ?_
  refine VO.k1 2 ?_
  refine VC.ret ?_
  refine ⟨_, _, res_run (rs := [.tmp 2]) rfl (.tmp rfl .nil), fun W_ hI => out_of (l := [mone g1 (.cells [(.slice A d0.length c : Value)].toArray 45 (0, 0))]) hI [101] rfl rfl (mle_refl _) (fun hS_ => ⟨[.pointer (some ⟨g1, 0, none⟩)], rfl, ?_⟩)⟩
  show IterR _ _ _ _ (mun _ mnil) _ _ _ _
  rw [mun_nil]
  exact bw1_ok h0
/-- the key at a place of a list of ops -/
def kAt (l : List DOp) (i : Nat) : Bytes := (l[i]?.getD (false, [], [])).2.1
theorem kAt_of {l : List DOp} {i : Nat} {x : DOp} (h : l[i]? = some x) : kAt l i = x.2.1 := by unfold kAt; rw [h]; rfl
def geK (l : List DOp) (k : Bytes) (i : Nat) : Bool := decide (¬ kl (kAt l i) k)
def opAns : Option DOp → Bytes × Bool × Bool
  | some o => (o.2.2, true, o.1)
  | none => ([], false, false)
def findK (l : List DOp) (k : Bytes) : Option DOp := l.find? fun o => decide (o.2.1 = k)
def getRev : List DRun → Bytes → Option DOp
  | [], _ => none
  | r :: l, k => match findK r.2.2 k with
    | some o => some o
    | none => getRev l k
def getR (l : List DRun) (k : Bytes) : Bytes × Bool × Bool := opAns (getRev l.reverse k)
section
variable {l : List DOp} {k : Bytes} {i j : Nat} {x : DOp} {u : List DRun} {r : DRun}
theorem ups_lt {y : DOp} (h : opsUp l) (hx : l[i]? = some x) (hy : l[j]? = some y) (hij : i < j) : kl x.2.1 y.2.1 := by
  obtain ⟨h1, e1⟩ := List.getElem?_eq_some_iff.1 hx
  obtain ⟨h2, e2⟩ := List.getElem?_eq_some_iff.1 hy
  have := List.pairwise_iff_getElem.1 h.2 _ _ h1 h2 hij
  rwa [e1, e2] at this
theorem find_at (h : opsUp l) (hx : l[i]? = some x) (he : x.2.1 = k) : findK l k = some x := by
  unfold findK
  cases hf : l.find? fun o => decide (o.2.1 = k) with
  | none =>
    have := List.find?_eq_none.1 hf x (List.mem_of_getElem? hx)
    rw [he] at this; simp at this
  | some y =>
    have hy := List.find?_some hf
    simp only [decide_eq_true_eq] at hy
    obtain ⟨j, hj⟩ := List.getElem?_of_mem (List.mem_of_find?_eq_some hf)
    rcases Nat.lt_trichotomy i j with q | q | q
    · have := ups_lt h hx hj q; rw [he, hy] at this; exact absurd this (kl_irrefl _)
    · subst q; rw [hx] at hj; exact hj.symm
    · have := ups_lt h hj hx q; rw [he, hy] at this; exact absurd this (kl_irrefl _)
/-- where the search has ended, and the key is not there, it is nowhere -/
theorem find_not (h : opsUp l) (hi : i ≤ l.length) (h1 : i < l.length → geK l k i = true) (h2 : 0 < i → geK l k (i - 1) = false) (hn : ∀ x, l[i]? = some x → ¬ x.2.1 = k) : findK l k = none := by
  unfold findK
  refine List.find?_eq_none.2 fun y hy => ?_
  obtain ⟨j, hj⟩ := List.getElem?_of_mem hy
  have hjl := (List.getElem?_eq_some_iff.1 hj).1
  simp only [decide_eq_true_eq]
  intro e
  rcases Nat.lt_trichotomy j i with q | q | q
  · have h3 := h2 (by omega)
    have h4 : kl (kAt l (i - 1)) k := by unfold geK at h3; simpa using h3
    obtain ⟨z, hz⟩ : ∃ z, l[i - 1]? = some z := ⟨_, List.getElem?_eq_getElem (by omega)⟩
    rw [kAt_of hz] at h4
    rcases Nat.lt_or_ge j (i - 1) with q2 | q2
    · have := kl_trans (ups_lt h hj hz q2) h4; rw [e] at this; exact kl_irrefl _ this
    · have : j = i - 1 := by omega
      subst this; rw [hj] at hz; cases hz; rw [e] at h4; exact kl_irrefl _ h4
  · subst q; exact hn y hj e
  · have h3 := h1 (by omega)
    have h4 : ¬ kl (kAt l i) k := by unfold geK at h3; simpa using h3
    obtain ⟨z, hz⟩ : ∃ z, l[i]? = some z := ⟨_, List.getElem?_eq_getElem (by omega)⟩
    rw [kAt_of hz] at h4
    have := ups_lt h hz hj q; rw [e] at this; exact h4 this
theorem getRev_take {n : Nat} (hx : u[n]? = some r) : getRev (u.take (n + 1)).reverse k = (match findK r.2.2 k with | some o => some o | none => getRev (u.take n).reverse k) := by
  rw [take_one hx, List.reverse_append]; rfl
/-- so far, from the last on: nothing of the key. -/
def getAt (u : List DRun) (k : Bytes) (a : Int) : Prop := -1 ≤ a ∧ a < u.length ∧ getR u k = opAns (getRev (u.take (a + 1).toNat).reverse k)
theorem getAt_0 (u : List DRun) (k : Bytes) : getAt u k ((u.length : Int) - 1) := ⟨by omega, by omega, by
  unfold getR; rw [List.take_of_length_le (by omega)]⟩
theorem getAt_next {a : Int} (h : getAt u k a) (h0 : 0 ≤ a) (hx : u[a.toNat]? = some r) (hf : findK r.2.2 k = none) : getAt u k (a - 1) := by
  refine ⟨by omega, by have := h.2.1; omega, ?_⟩
  rw [h.2.2, show (a + 1).toNat = a.toNat + 1 by omega, getRev_take hx, hf, show (a - 1 + 1).toNat = a.toNat by omega]
theorem getAt_hit {a : Int} {o : DOp} (h : getAt u k a) (h0 : 0 ≤ a) (hx : u[a.toNat]? = some r) (hf : findK r.2.2 k = some o) : getR u k = (o.2.2, true, o.1) := by
  rw [h.2.2, show (a + 1).toNat = a.toNat + 1 by omega, getRev_take hx, hf]; rfl
theorem getAt_end {a : Int} (h : getAt u k a) (ha : a < 0) : getR u k = ([], false, false) := by
  rw [h.2.2, show (a + 1).toNat = 0 by omega]; rfl
end
theorem fnOk89 : fnOk Tryz.prog 89 = true := by kernel_rfl
theorem fnOk90 : fnOk Tryz.prog 90 = true := by kernel_rfl
theorem fnOk91 : fnOk Tryz.prog 91 = true := by kernel_rfl
theorem tz4 : tz Tryz.prog 4 = some [.bool false] := by kernel_rfl
theorem tz9 : tz Tryz.prog 9 = some [.string ⟨#[]⟩] := by kernel_rfl
theorem search_ok (W : World) (d0 : Nat) (h0 : d0 < 9223372036854775808) {gf1 : FuncId} {caps1 : List Value} {p1 : Nat → Bool} (hf1 : fnOk Tryz.prog gf1 = true) (h1 : ∀ W', mle (wm W) (wm W') → ∀ i : Nat, i < d0 → CallR Tryz.prog gf1 (.int .i64 ((i : Nat) : Int) :: caps1) W' mnil (fun v _ => v = .bool (p1 i))) (e0 : d0 ≤ 4611686018427387903) : CallR Tryz.prog 90 [.int .i64 (d0 : Int), .func (.func gf1) #[] caps1.toArray] W (mnil) (fun v m' => ∃ (kq : Nat), v = .int .i64 ((kq : Nat) : Int) ∧ kq ≤ d0 ∧ (kq < d0 → p1 kq = true) ∧ (0 < kq → p1 (kq - 1) = false)) := by
  refine CallR.ofA (n := 26) Tryz.func90 rfl rfl rfl ?_
  refine VC.rs ?_
  refine VO.as ?_
  refine VO.k3 0 1 4 ?_
  refine VC.rs ?_
  refine VO.mv ?_
  refine VO.as ?_
  refine VO.as ?_
  refine VO.k5 0 1 4 5 6 ?_
  refine VC.seq ?_
  refine VC.block ?_
  refine VC.loop (G := Nat × Nat) (fun g => [(5, Value.int .i64 ((((g.1) : Nat) : Int))), (6, Value.int .i64 ((((g.2) : Nat) : Int))), (0, Value.int .i64 (((d0 : Nat) : Int))), (1, Value.func (.func gf1) #[] caps1.toArray), (4, Value.int .i64 (0))]) (fun g => [(0, wm W)]) (fun g => ((g.1) ≤ (g.2)) ∧ ((g.2) ≤ d0) ∧ (0 < (g.1) → p1 ((g.1) - 1) = false) ∧ ((g.2) < d0 → p1 (g.2) = true)) (fun g => (g.2) - (g.1)) (0, d0) (⟨by omega, by omega, by (intro h_; exact absurd h_ (by omega)), by (intro h_; exact absurd h_ (by omega))⟩) ⟨⟨rfl, rfl, rfl, rfl, rfl, trivial⟩, fun _ h => h.sub [0]⟩ ?_
  rintro ⟨i, j⟩ ⟨hij, hj, hp1, hp2⟩
  replace hij : i ≤ j := hij
  replace hj : j ≤ d0 := hj
  replace hp1 : 0 < i → p1 (i - 1) = false := hp1
  replace hp2 : j < d0 → p1 j = true := hp2
  show VC _ _ _ _ _ [(5, Value.int .i64 (((i : Nat) : Int))), (6, Value.int .i64 (((j : Nat) : Int))), (0, Value.int .i64 (((d0 : Nat) : Int))), (1, Value.func (.func gf1) #[] caps1.toArray), (4, Value.int .i64 (0))] [(0, wm W)]
  refine VC.seq ?_
  refine VC.rs ?_
  refine VO.mv ?_
  refine VO.mv ?_
  refine VO.y rfl (.lss rfl rfl) ?_
  refine VO.kp [0] [(0, wm W)] ?_
  refine VO.k6 0 1 4 5 6 11 ?_
  refine VC.cond rfl (fun hc1 => ?_) (fun hc1 => ?_)
  · -- T
    refine VC.skip ?_
    refine outN ?_
    refine VC.block ?_
    refine VC.rs ?_
    refine VO.mv ?_
    refine VO.mv ?_
    refine VO.y rfl (.add (c := ((i + j : Nat) : Int)) rfl rfl (by omega) ⟨bd, bd⟩) ?_
    refine VO.y rfl (.cvI rfl ⟨_, Tryz.underlying3⟩ Tryz.underlying166 (IntWalk.u64_in _ bd)) ?_
    refine VO.y rfl (.shf (.inr rfl) rfl rfl (shr1 _)) ?_
    refine VO.y rfl (.cvI rfl ⟨_, Tryz.underlying166⟩ Tryz.underlying3 (IntWalk.i64_in _ bd)) ?_
    refine VO.as ?_
    refine VO.k7 0 1 4 5 6 7 11 ?_
    refine VC.rs ?_
    refine VO.mv ?_
    refine VO.mv ?_
    refine VO.callVN 102 rfl rfl hf1 rfl (fun W_ hW_ => h1 W_ (hW_.at (i := 0) rfl) ((i + j) / 2) bd) (fun v2 m2 hv2 => ?_)
    subst hv2
    refine VO.y rfl (.not rfl) ?_
    refine VO.k8 0 1 4 5 6 7 11 21 ?_
    refine VC.condBN rfl (fun hc3 => ?_) (fun hc3 => ?_)
    · -- TT
      refine VC.reg ?_
      refine VO.mv ?_
      refine VO.y rfl (.add (c := ((((i + j) / 2) + 1 : Nat) : Int)) rfl rfl (by omega) ⟨bd, bd⟩) ?_
      refine VO.as ?_
      refine VO.kp [0] [(0, wm W)] ?_
      refine VO.k8 0 1 4 5 6 7 11 21 ?_
      refine outBN ?_
      exact outN ⟨⟨((i + j) / 2) + 1, j⟩, ⟨by omega, by omega, by first | exact hp1 | (intro _; rw [show (i + j) / 2 + 1 - 1 = (i + j) / 2 by omega]; assumption), by first | exact hp2 | (intro _; assumption)⟩, bd, ⟨⟨rfl, rfl, rfl, rfl, rfl, trivial⟩, fun _ h => Inv.sub h [0]⟩⟩
    · -- TF
      refine VC.reg ?_
      refine VO.mv ?_
      refine VO.as ?_
      refine VO.kp [0] [(0, wm W)] ?_
      refine VO.k8 0 1 4 5 6 7 11 21 ?_
      refine outBN ?_
      exact outN ⟨⟨i, (i + j) / 2⟩, ⟨by omega, by omega, by first | exact hp1 | (intro _; rw [show (i + j) / 2 + 1 - 1 = (i + j) / 2 by omega]; assumption), by first | exact hp2 | (intro _; assumption)⟩, bd, ⟨⟨rfl, rfl, rfl, rfl, rfl, trivial⟩, fun _ h => Inv.sub h [0]⟩⟩
  · -- F
    refine VC.exit ?_
    refine outE ?_
    refine outE ?_
    refine outBB ?_
    refine outN ?_
    refine VC.rs ?_
    refine VO.mv ?_
    refine VO.as ?_
    refine VO.k6 0 1 4 5 6 11 ?_
    refine VC.ret ?_
    refine ⟨_, _, res_run (rs := [.tmp 4]) rfl (.tmp rfl .nil), fun W_ hI => out_of (l := []) hI [] rfl rfl (mle_refl _) (fun hS_ => ?_)⟩
    dsimp only [packV]
    refine ⟨i, ?_, ?_, ?_, ?_⟩
    rotate_left
    · (omega)
    · ((intro h_; have e_ : i = j := (by omega); subst e_; exact hp2 h_))
    · (exact hp1)
    all_goals (first | rfl | (simp [*]; done))
theorem get1_ok (W : World) (d0 : Nat) (h0 : d0 < 9223372036854775808) {g1 : Nat} {E1 : TypeId} {v1 : List Value} {d1 : DRun} (h1 : Rd TRun (wm W) v1 d1) (b1 : mle (mone g1 (.cells v1.toArray E1 (0, 0))) (wm W)) {g2 : Nat} {E2 : TypeId} {v2 : List Value} {d2 : List UInt8} (h2 : Rd .str (wm W) v2 d2) (b2 : mle (mone g2 (.cells v2.toArray E2 (0, 0))) (wm W)) (e0 : d0 < d1.2.2.length) : CallR Tryz.prog 91 [.int .i64 (d0 : Int), .pointer (some ⟨g1, 0, none⟩), .pointer (some ⟨g2, 0, none⟩)] W (mnil) (fun v m' => v = .bool (geK d1.2.2 d2 d0)) := by
  have hrb1 := h1
  obtain ⟨p1_A2, p1_c2, rfl, p1_0, p1_1, p1_2⟩ := open_Run (x0 := d1.1) (x1 := d1.2.1) (x2 := d1.2.2) h1
  simp only [inK] at p1_0
  simp only [inK] at p1_1
  have p1_r2 := Rd.room p1_2
  have hceb1 : cellsAt (wm W) g1 0 3 [Value.int .i64 (d1.1), Value.int .i64 (d1.2.1), Value.slice p1_A2 (d1.2.2.length) (p1_c2)] := (cellsAt_one rfl rfl).mono b1
  have hrb2 := h2
  obtain ⟨rfl, _⟩ := h2
  have hceb2 : cellsAt (wm W) g2 0 1 [str (d2)] := (cellsAt_one rfl rfl).mono b2
  refine CallR.ofA (n := 13) Tryz.func91 rfl rfl rfl ?_
  refine VC.rs ?_
  refine VO.as ?_
  refine VO.k4 0 1 2 4 ?_
  refine VC.seq ?_
  refine VC.regD _ 7 [(0, true), (1, true), (2, true), (3, true), (4, true), (5, true), (6, true)] follows (by kernel_rfl) (fun _ h => h.sub [0]) ?_
  refine VD.y rfl rfl (.inl rfl) (.fa rfl tst92 rfl) ?_
  refine VD.y rfl rfl (.inl rfl) (.ld1 0 rfl tk34 rfl (hceb1.at1 (j := 2) rfl)) ?_
  refine VD.y rfl rfl (.inl rfl) (.mv rfl) ?_
  obtain ⟨x1, hx1⟩ : ∃ z_, (d1.2.2)[d0]? = some z_ := ⟨_, List.getElem?_eq_getElem bd⟩
  obtain ⟨gg1, oo1, ec1, ea1, hce1, hre1⟩ := p1_2.elem hx1
  cases ea1
  obtain ⟨rfl, q1_1, q1_2⟩ := open_Op (x0 := x1.1) (x1 := x1.2.1) (x2 := x1.2.2) hre1
  simp only [maxLen] at q1_1
  simp only [maxLen] at q1_2
  refine VD.y rfl rfl (.inl rfl) (.ixI d0 rfl rfl tsl34 rfl bd) ?_
  refine VD.y rfl rfl (.inl rfl) (.fa rfl tst64 rfl) ?_
  refine VD.y rfl rfl (.inl rfl) (.ld1 0 rfl tk9 rfl (hce1.at1 (j := 1) rfl)) ?_
  refine VD.y rfl rfl (.inl rfl) (.ld1 0 rfl tk9 rfl hceb2) ?_
  refine VD.nil rfl ?_ rfl
  refine VO.y rfl (.sgeq rfl rfl) ?_
  refine VO.as ?_
  refine VO.k4 0 1 2 4 ?_
  refine outN ?_
  refine VC.ret ?_
  refine ⟨_, _, res_run (rs := [.tmp 4]) rfl (.tmp rfl .nil), fun W_ hI => out_of (l := []) hI [] rfl rfl (mle_refl _) (fun hS_ => ?_)⟩
  dsimp only [packV]
  all_goals (first | rfl | (exact congrArg Value.bool (by unfold geK; rw [kAt_of ‹d1.2.2[d0]? = some _›])))
theorem uNoneB_ok (W : World) {g0 : Nat} {E0 : TypeId} {d0 : DrunRuns0} {b0_2 : Value} (hm : mle (mone g0 (.cells [(.pointer (d0.1.map fun g => ⟨g, 0, none⟩) : Value), .bool d0.2.1, b0_2].toArray E0 (0, 0))) (wm W)) (h0_2 : Rd (.sl TRun) (mout (wm W) (mone g0 (.cells [(.pointer (d0.1.map fun g => ⟨g, 0, none⟩) : Value), .bool d0.2.1, b0_2].toArray E0 (0, 0)))) [b0_2] d0.2.2) : CallR Tryz.prog 55 [.pointer (some ⟨g0, 0, none⟩)] W (mone g0 (.cells [(.pointer (d0.1.map fun g => ⟨g, 0, none⟩) : Value), .bool d0.2.1, b0_2].toArray E0 (0, 0))) (fun v m' => v = .bool (decide (d0.1 = none)) ∧ m' = mone g0 (.cells [(.pointer (d0.1.map fun g => ⟨g, 0, none⟩) : Value), .bool d0.2.1, b0_2].toArray E0 (0, 0))) := by
  obtain ⟨A0_2, c0_2, rfl, l0_2, k0_2⟩ := h0_2.slice
  simp only [maxLen] at k0_2
  refine CallR.ofB (n := 12) hm Tryz.func55 rfl rfl rfl ?_
  refine VC.rs ?_
  refine VO.as ?_
  refine VO.k2 0 2 ?_
  refine VC.rs ?_
  refine VO.mv ?_
  refine VO.y rfl (.pnil rfl rfl Tryz.underlying38 rfl) ?_
  refine VO.mv ?_
  refine VO.gy rfl ⟨_, rfl, rfl⟩ (.mv rfl) ?_
  refine VO.gy rfl ⟨_, rfl, rfl⟩ (.nilp rfl) ?_
  refine VO.gy rfl ⟨_, rfl, rfl⟩ (.fa rfl tst47 rfl) ?_
  refine VO.gy rfl ⟨_, rfl, rfl⟩ (.ld1 1 rfl tk44 rfl (cellsAt_one rfl rfl)) ?_
  refine VO.gy rfl ⟨_, rfl, rfl⟩ (.pnilO rfl rfl Tryz.underlying44) ?_
  refine VO.y rfl (.pF rfl rfl) ?_
  refine VO.as ?_
  refine VO.k2 0 2 ?_
  refine VC.ret ?_
  refine ⟨_, _, res_run (rs := [.tmp 2]) rfl (.tmp rfl .nil), fun W_ hI => out_of (l := [mone g0 (.cells [Value.pointer ((d0.1).map fun g => ⟨g, 0, none⟩), Value.bool d0.2.1, Value.slice A0_2 (d0.2.2.length) (c0_2)].toArray E0 (0, 0))]) hI [1] rfl rfl (mle_refl _) (fun hS_ => ?_)⟩
  dsimp only [packV]
  refine ⟨?_, ?_⟩
  rotate_left
  · rw [muns_one]
  all_goals (first | rfl | (simp [*]; done))
set_option maxHeartbeats 4000000 in
theorem uGet_ok (W : World) {g0 : Nat} {E0 : TypeId} {d0 : DrunRuns0} {b0_2 : Value} (hm : mle (mone g0 (.cells [(.pointer (d0.1.map fun g => ⟨g, 0, none⟩) : Value), .bool d0.2.1, b0_2].toArray E0 (0, 0))) (wm W)) (h0_2 : Rd (.sl TRun) (mout (wm W) (mone g0 (.cells [(.pointer (d0.1.map fun g => ⟨g, 0, none⟩) : Value), .bool d0.2.1, b0_2].toArray E0 (0, 0)))) [b0_2] d0.2.2) (d1 : List UInt8) (h1 : d1.length ≤ maxLen) (e0 : okU d0.2.2) (e1 : ¬ d0.1 = none) : CallR Tryz.prog 46 [.pointer (some ⟨g0, 0, none⟩), str d1] W (mone g0 (.cells [(.pointer (d0.1.map fun g => ⟨g, 0, none⟩) : Value), .bool d0.2.1, b0_2].toArray E0 (0, 0))) (fun v m' => v = .tuple #[str ((getR d0.2.2 d1).1), .bool ((getR d0.2.2 d1).2.1), .bool ((getR d0.2.2 d1).2.2)] ∧ m' = mone g0 (.cells [(.pointer (d0.1.map fun g => ⟨g, 0, none⟩) : Value), .bool d0.2.1, b0_2].toArray E0 (0, 0))) := by
  have hll := okU_len e0
  obtain ⟨A0_2, c0_2, rfl, l0_2, k0_2⟩ := h0_2.slice
  simp only [maxLen] at k0_2
  have h1' := h1; simp only [maxLen] at h1'
  refine CallR.ofX (n := 51) Tryz.func46 rfl rfl rfl hm ?_
  refine VX.rs ?_
  refine VO.box (cs := [str (d1)]) 102 rfl rfl rfl (fun g1 => ?_)
  refine VO.alloc 104 rfl tz9 (fun g3 => ?_)
  refine VO.alloc 106 rfl tz4 (fun g5 => ?_)
  refine VO.alloc 108 rfl tz4 (fun g7 => ?_)
  refine VO.k6 0 1 3 4 5 6 ?_
  refine VX.seq ?_
  refine VX.rs ?_
  refine VO.mv ?_
  refine VO.call 1 rfl fnOk55 rfl rfl (fun W hW => uNoneB_ok W (d0 := d0) (hW.at (i := 1) rfl) (Rd.mono h0_2 (hW.out (i := 1) (j := 0) rfl rfl))) (fun v9 m9 hv9 => ?_)
  obtain ⟨rfl, rfl⟩ := hv9
  refine VO.k7 0 1 3 4 5 6 11 ?_
  refine VX.cond rfl (fun hc10 => ?_) (fun hc10 => ?_)
  · -- T
    exact (e1 hc10).elim
  · -- F
    refine VX.skip ?_
    refine outN ?_
    refine VX.seq ?_
    refine VX.rs ?_
    refine VO.mv ?_
    refine VO.y rfl (.nilp rfl) ?_
    refine VO.y rfl (.fa rfl tst47 rfl) ?_
    refine VO.y rfl (.ld1 1 rfl tk45 rfl (cellsAt_one rfl rfl)) ?_
    refine VO.callN 111 rfl fnOk89 rfl (fun W_ hW_ => bw_ok W_ (mf := mout (wm W) (mone g0 (.cells [Value.pointer ((d0.1).map fun g => ⟨g, 0, none⟩), Value.bool d0.2.1, Value.slice A0_2 (d0.2.2.length) (c0_2)].toArray E0 (0, 0)))) (hW_.at (i := 0) rfl) h0_2) (fun v11 m11 hv11 => ?_)
    obtain ⟨ca11, rfl, hit11⟩ := hv11
    refine VO.kp [111, 1, 108, 106, 104, 102, 0] [(111, m11), (1, mone g0 (.cells [Value.pointer ((d0.1).map fun g => ⟨g, 0, none⟩), Value.bool d0.2.1, Value.slice A0_2 (d0.2.2.length) (c0_2)].toArray E0 (0, 0))), (108, mone g7 (.cells [Value.bool false].toArray 4 (0, 0))), (106, mone g5 (.cells [Value.bool false].toArray 4 (0, 0))), (104, mone g3 (.cells [str ([])].toArray 9 (0, 0))), (102, mone g1 (.cells [str (d1)].toArray 9 (0, 0))), (0, mout (wm W) (mone g0 (.cells [Value.pointer ((d0.1).map fun g => ⟨g, 0, none⟩), Value.bool d0.2.1, Value.slice A0_2 (d0.2.2.length) (c0_2)].toArray E0 (0, 0))))] ?_
    refine VO.k8 0 1 3 4 5 6 11 16 ?_
    refine VX.block ?_
    refine VX.gather (l := [mone g7 (.cells [Value.bool false].toArray 4 (0, 0)), mone g5 (.cells [Value.bool false].toArray 4 (0, 0)), mone g3 (.cells [str ([])].toArray 9 (0, 0))]) 113 [108, 106, 104] rfl (fun hg12 => ?_)
    refine VX.inv [(111, m11), (113, muns [mone g7 (.cells [Value.bool false].toArray 4 (0, 0)), mone g5 (.cells [Value.bool false].toArray 4 (0, 0)), mone g3 (.cells [str ([])].toArray 9 (0, 0))]), (1, mone g0 (.cells [Value.pointer ((d0.1).map fun g => ⟨g, 0, none⟩), Value.bool d0.2.1, Value.slice A0_2 (d0.2.2.length) (c0_2)].toArray E0 (0, 0))), (102, mone g1 (.cells [str (d1)].toArray 9 (0, 0))), (0, mout (wm W) (mone g0 (.cells [Value.pointer ((d0.1).map fun g => ⟨g, 0, none⟩), Value.bool d0.2.1, Value.slice A0_2 (d0.2.2.length) (c0_2)].toArray E0 (0, 0))))] (fun _ h => h.sub [111, 113, 1, 102, 0]) ?_
    refine VX.rangeR (A := Int) (G := (List UInt8) × Bool × Bool) (rest := [(1, mone g0 (.cells [Value.pointer ((d0.1).map fun g => ⟨g, 0, none⟩), Value.bool d0.2.1, Value.slice A0_2 (d0.2.2.length) (c0_2)].toArray E0 (0, 0))), (102, mone g1 (.cells [str (d1)].toArray 9 (0, 0))), (0, mout (wm W) (mone g0 (.cells [Value.pointer ((d0.1).map fun g => ⟨g, 0, none⟩), Value.bool d0.2.1, Value.slice A0_2 (d0.2.2.length) (c0_2)].toArray E0 (0, 0))))]) 113 111 114 115 116 117 (fun g => muns [mone g7 (.cells [Value.bool (g.2.2)].toArray 4 (0, 0)), mone g5 (.cells [Value.bool (g.2.1)].toArray 4 (0, 0)), mone g3 (.cells [str ((g.1))].toArray 9 (0, 0))]) (fun at_ g => (getAt d0.2.2 d1 at_) ∧ (Seps (muns [mone g7 (.cells [Value.bool (g.2.2)].toArray 4 (0, 0)), mone g5 (.cells [Value.bool (g.2.1)].toArray 4 (0, 0)), mone g3 (.cells [str ((g.1))].toArray 9 (0, 0))]) [mone g7 (.cells [Value.bool (g.2.2)].toArray 4 (0, 0)), mone g5 (.cells [Value.bool (g.2.1)].toArray 4 (0, 0)), mone g3 (.cells [str ((g.1))].toArray 9 (0, 0))])) (fun e g => e = .ret ∧ (getR d0.2.2 d1 = ((g.1), (g.2.1), (g.2.2))) ∧ (Seps (muns [mone g7 (.cells [Value.bool (g.2.2)].toArray 4 (0, 0)), mone g5 (.cells [Value.bool (g.2.1)].toArray 4 (0, 0)), mone g3 (.cells [str ((g.1))].toArray 9 (0, 0))]) [mone g7 (.cells [Value.bool (g.2.2)].toArray 4 (0, 0)), mone g5 (.cells [Value.bool (g.2.1)].toArray 4 (0, 0)), mone g3 (.cells [str ((g.1))].toArray 9 (0, 0))])) ([], false, false) ⟨by exact getAt_0 _ _, hg12⟩ (fun _ _ => hit11) (.inr ⟨0, (.tail _ (.tail _ (.head _)))⟩) rfl rfl rfl (fun _ _ _ h => by obtain ⟨_, _, _, _, _, _, rfl, _⟩ := h; rfl) (Bx := Nat) (fun args B => [(8, Value.pointer (some ⟨B, 0, none⟩)), (0, Value.pointer (some ⟨g0, 0, none⟩)), (1, str (d1)), (3, Value.pointer (some ⟨g1, 0, none⟩)), (4, Value.pointer (some ⟨g3, 0, none⟩)), (5, Value.pointer (some ⟨g5, 0, none⟩)), (6, Value.pointer (some ⟨g7, 0, none⟩)), (11, Value.bool (decide (d0.1 = none)))]) (fun args B => [(118, mone B (.cells (aggC (args.getD 1 undef)) 92 (0, 0)))]) ?_ ?_ ?_ ?_
    · intro w1_ lr_ at_ args_ mr_ Ω_ hE_
      obtain ⟨hE0_, hE1_, rfl, x_, cs_, hxa_, rfl, hrx_⟩ := hE_
      have hrx0_ := hrx_
      obtain ⟨xA_, xc_, rfl, hxf_, hxu_, hro_⟩ := open_Run (x0 := x_.1) (x1 := x_.2.1) (x2 := x_.2.2) hrx_
      simp only [inK] at hxf_ hxu_
      have hxr_ := Rd.room hro_
      have hxc_ := runCheck_ok (okU_all e0 x_ (List.mem_of_getElem? hxa_))
      have hup_ := hxc_.2.2.2.2
      refine VX.reg ?_
      refine VO.alloc 118 rfl tz92 (fun gB_ => ?_)
      refine VO.store (k := 3) (c' := [Value.int .i64 (x_.1), Value.int .i64 (x_.2.1), Value.slice xA_ (x_.2.2.length) (xc_)]) 118 rfl rfl (.inl tk92) rfl rfl rfl rfl rfl ?_
      refine VO.nil ?_
      exact ⟨rfl, rfl, gB_, ⟨rfl, rfl, rfl, rfl, rfl, rfl, rfl, rfl, trivial⟩, fun W_ hW_ => Inv.rot hW_⟩
    · -- FB
      rintro w1_ lr_ Dr_ at_ ⟨val, met, th⟩ args_ mr_ ml_ mo_ gB_ ⟨hg, hSep_⟩ hE_
      replace hg : getAt d0.2.2 d1 at_ := hg
      replace hSep_ : Seps (muns [mone g7 (.cells [Value.bool th].toArray 4 (0, 0)), mone g5 (.cells [Value.bool met].toArray 4 (0, 0)), mone g3 (.cells [str (val)].toArray 9 (0, 0))]) [mone g7 (.cells [Value.bool th].toArray 4 (0, 0)), mone g5 (.cells [Value.bool met].toArray 4 (0, 0)), mone g3 (.cells [str (val)].toArray 9 (0, 0))] := hSep_
      obtain ⟨hE0_, hE1_, rfl, x_, cs_, hxa_, rfl, hrx_⟩ := hE_
      have hrx0_ := hrx_
      obtain ⟨xA_, xc_, rfl, hxf_, hxu_, hro_⟩ := open_Run (x0 := x_.1) (x1 := x_.2.1) (x2 := x_.2.2) hrx_
      simp only [inK] at hxf_ hxu_
      have hxr_ := Rd.room hro_
      have hxc_ := runCheck_ok (okU_all e0 x_ (List.mem_of_getElem? hxa_))
      have hup_ := hxc_.2.2.2.2
      refine VX.parts 113 [108, 106, 104] rfl hSep_ ?_
      show VX _ _ _ _ _ _ _ [(8, Value.pointer (some ⟨gB_, 0, none⟩)), (0, Value.pointer (some ⟨g0, 0, none⟩)), (1, str (d1)), (3, Value.pointer (some ⟨g1, 0, none⟩)), (4, Value.pointer (some ⟨g3, 0, none⟩)), (5, Value.pointer (some ⟨g5, 0, none⟩)), (6, Value.pointer (some ⟨g7, 0, none⟩)), (11, Value.bool (decide (d0.1 = none)))] [(108, mone g7 (.cells [Value.bool th].toArray 4 (0, 0))), (106, mone g5 (.cells [Value.bool met].toArray 4 (0, 0))), (104, mone g3 (.cells [str (val)].toArray 9 (0, 0))), (116, mnil), (117, mo_), (115, ml_), (114, mone Dr_ (.deferred (some []))), (1, mone g0 (.cells [Value.pointer ((d0.1).map fun g => ⟨g, 0, none⟩), Value.bool d0.2.1, Value.slice A0_2 (d0.2.2.length) (c0_2)].toArray E0 (0, 0))), (102, mone g1 (.cells [str (d1)].toArray 9 (0, 0))), (0, mout (wm W) (mone g0 (.cells [Value.pointer ((d0.1).map fun g => ⟨g, 0, none⟩), Value.bool d0.2.1, Value.slice A0_2 (d0.2.2.length) (c0_2)].toArray E0 (0, 0)))), (118, mone gB_ (.cells [Value.int .i64 (x_.1), Value.int .i64 (x_.2.1), Value.slice xA_ (x_.2.2.length) (xc_)].toArray 92 (0, 0)))]
      refine VX.block ?_
      refine VX.rs ?_
      refine VO.y rfl (.fa rfl tst92 rfl) ?_
      refine VO.y rfl (.ld1 118 rfl tk34 rfl (cellsAt_one rfl rfl)) ?_
      refine VO.y rfl (.lenS rfl tsl34) ?_
      refine VO.y rfl (.mkf rfl) ?_
      refine VO.callN 119 rfl fnOk90 rfl (fun W_ hW_ => search_ok (p1 := geK x_.2.2 d1) W_ x_.2.2.length bd fnOk91 (fun W2_ hW2_ i_ hi_ => get1_ok W2_ i_ (by omega) (d1 := x_) (Rd.mono hrx_ ((hW_.at (i := 0) rfl).trans hW2_)) ((hW_.at (i := 118) rfl).trans hW2_) (d2 := d1) (v2 := [str d1]) ⟨rfl, h1⟩ ((hW_.at (i := 102) rfl).trans hW2_) hi_) (by omega)) (fun v19 m19 hv19 => ?_)
      obtain ⟨kq19, rfl, hq1_19, hq2_19, hq3_19⟩ := hv19
      refine VO.as ?_
      refine VO.k9 0 1 3 4 5 6 8 9 11 ?_
      refine VX.seq ?_
      refine VX.regD _ 13 [(0, true), (1, true), (2, true), (3, true), (4, true), (5, true), (6, true), (7, true), (8, true), (9, true), (10, true), (11, true), (12, true)] follows (by kernel_rfl) (fun _ h => h.sub [119, 108, 106, 104, 116, 117, 115, 114, 1, 102, 0, 118]) ?_
      refine VD.y rfl rfl (.inl rfl) (.mv rfl) ?_
      refine VD.y rfl rfl (.inl rfl) (.fa rfl tst92 rfl) ?_
      refine VD.y rfl rfl (.inl rfl) (.ld1 118 rfl tk34 rfl (cellsAt_one rfl rfl)) ?_
      refine VD.y rfl rfl (.inl rfl) (.lenS rfl tsl34) ?_
      refine VD.y rfl rfl (.inl rfl) (.lss rfl rfl) ?_
      refine VD.y rfl rfl (.inl rfl) (.mv rfl) ?_
      refine VD.dec (s := 29) rfl (fun hc20 => ?_) (fun hc20 => ?_)
      · -- FBT
        refine VD.y rfl rfl (.inr ⟨_, _, rfl, _, rfl, rfl⟩) (.fa rfl tst92 rfl) ?_
        refine VD.y rfl rfl (.inr ⟨_, _, rfl, _, rfl, rfl⟩) (.ld1 118 rfl tk34 rfl (cellsAt_one rfl rfl)) ?_
        refine VD.y rfl rfl (.inr ⟨_, _, rfl, _, rfl, rfl⟩) (.mv rfl) ?_
        obtain ⟨x21, hx21⟩ : ∃ z_, (x_.2.2)[kq19]? = some z_ := ⟨_, List.getElem?_eq_getElem bd⟩
        obtain ⟨gg21, oo21, ec21, ea21, hce21, hre21⟩ := hro_.elem hx21
        cases ea21
        obtain ⟨rfl, q21_1, q21_2⟩ := open_Op (x0 := x21.1) (x1 := x21.2.1) (x2 := x21.2.2) hre21
        simp only [maxLen] at q21_1
        simp only [maxLen] at q21_2
        refine VD.y rfl rfl (.inr ⟨_, _, rfl, _, rfl, rfl⟩) (.ixI kq19 rfl rfl tsl34 rfl bd) ?_
        refine VD.y rfl rfl (.inr ⟨_, _, rfl, _, rfl, rfl⟩) (.fa rfl tst64 rfl) ?_
        refine VD.y rfl rfl (.inr ⟨_, _, rfl, _, rfl, rfl⟩) (.ld1 0 rfl tk9 rfl (hce21.at1 (j := 1) rfl)) ?_
        refine VD.y rfl rfl (.inr ⟨_, _, rfl, _, rfl, rfl⟩) (.ld1 102 rfl tk9 rfl (cellsAt_one rfl rfl)) ?_
        refine VD.nil rfl ?_ rfl
        refine VO.gy rfl ⟨_, rfl, rfl⟩ (.seql rfl rfl) ?_
        refine VO.y rfl (.pT rfl rfl) ?_
        refine VO.k10 0 1 3 4 5 6 8 9 11 38 ?_
        refine outN ?_
        refine VX.cond rfl (fun hc22 => ?_) (fun hc22 => ?_)
        · -- FBTT
          refine VX.seq ?_
          refine VX.inv _ (fun _ h => Inv.num h 106 2106 rfl) ?_
          refine VX.inv _ (fun _ h => Inv.num h 104 2104 rfl) ?_
          refine VX.regD _ 14 [(0, true), (1, true), (2, true), (3, true), (4, true), (5, true), (6, true), (7, true), (8, true), (9, true), (10, true), (11, true), (12, false), (13, false)] follows (by kernel_rfl) (fun _ h => h.sub [119, 108, 2106, 2104, 116, 117, 115, 114, 1, 102, 0, 118]) ?_
          refine VD.y rfl rfl (.inl rfl) (.fa rfl tst92 rfl) ?_
          refine VD.y rfl rfl (.inl rfl) (.ld1 118 rfl tk34 rfl (cellsAt_one rfl rfl)) ?_
          refine VD.y rfl rfl (.inl rfl) (.mv rfl) ?_
          refine VD.y rfl rfl (.inl rfl) (.ixI kq19 rfl rfl tsl34 rfl bd) ?_
          refine VD.y rfl rfl (.inl rfl) (.fa rfl tst64 rfl) ?_
          refine VD.y rfl rfl (.inl rfl) (.ld1 0 rfl tk9 rfl (hce21.at1 (j := 2) rfl)) ?_
          refine VD.y rfl rfl (.inl rfl) (.fa rfl tst92 rfl) ?_
          refine VD.y rfl rfl (.inl rfl) (.ld1 118 rfl tk34 rfl (cellsAt_one rfl rfl)) ?_
          refine VD.y rfl rfl (.inl rfl) (.mv rfl) ?_
          refine VD.y rfl rfl (.inl rfl) (.ixI kq19 rfl rfl tsl34 rfl bd) ?_
          refine VD.y rfl rfl (.inl rfl) (.fa rfl tst64 rfl) ?_
          refine VD.y rfl rfl (.inl rfl) (.ld1 0 rfl tk4 rfl (hce21.at1 (j := 0) rfl)) ?_
          refine VD.storeH (k := 1) (c' := [str (x21.2.2)]) 2104 rfl rfl rfl (.inr ⟨tk9, rfl⟩) rfl rfl rfl rfl rfl (fun _ h => h.sub [119, 108, 116, 117, 115, 114, 1, 102, 0, 118]) ?_
          refine VD.storeH (k := 1) (c' := [Value.bool true]) 2106 rfl rfl rfl (.inr ⟨tk4, rfl⟩) rfl rfl rfl rfl rfl (fun _ h => h.sub [119, 108, 116, 117, 115, 114, 1, 102, 0, 118]) ?_
          refine VD.nil rfl ?_ rfl
          refine VO.store (k := 1) (c' := [Value.bool x21.1]) 108 rfl rfl (.inr ⟨tk4, rfl⟩) rfl rfl rfl rfl rfl ?_
          refine VO.kp [108, 2106, 2104, 117, 115, 114, 1, 102, 0, 118] [(108, mone g7 (.cells [Value.bool x21.1].toArray 4 (0, 0))), (2106, mone g5 (.cells [Value.bool true].toArray 4 (0, 0))), (2104, mone g3 (.cells [str (x21.2.2)].toArray 9 (0, 0))), (117, mo_), (115, ml_), (114, mone Dr_ (.deferred (some []))), (1, mone g0 (.cells [Value.pointer ((d0.1).map fun g => ⟨g, 0, none⟩), Value.bool d0.2.1, Value.slice A0_2 (d0.2.2.length) (c0_2)].toArray E0 (0, 0))), (102, mone g1 (.cells [str (d1)].toArray 9 (0, 0))), (0, mout (wm W) (mone g0 (.cells [Value.pointer ((d0.1).map fun g => ⟨g, 0, none⟩), Value.bool d0.2.1, Value.slice A0_2 (d0.2.2.length) (c0_2)].toArray E0 (0, 0)))), (118, mone gB_ (.cells [Value.int .i64 (x_.1), Value.int .i64 (x_.2.1), Value.slice (some ⟨gg21, oo21, none⟩) (x_.2.2.length) (xc_)].toArray 92 (0, 0)))] ?_
          refine VO.k10 0 1 3 4 5 6 8 9 11 38 ?_
          refine outN ?_
          refine VX.ret ?_
          refine outBR ?_
          exact ⟨rfl, fun W_ hW_ => ⟨⟨x21.2.2, true, x21.1⟩, (hW_.gather (ids := [108, 2106, 2104]) 113 rfl).1.sub [117, 115, 113, 114, 1, 102, 0], .inr ⟨rfl, rfl, by exact getAt_hit hg hE0_ hxa_ (find_at hup_ ‹x_.2.2[kq19]? = some _› (by assumption)), (hW_.gather (ids := [108, 2106, 2104]) 113 rfl).2⟩⟩⟩
        · -- FBTF
          refine VX.skip ?_
          refine outBN ?_
          exact ⟨rfl, fun W_ hW_ => ⟨⟨val, met, th⟩, (hW_.gather (ids := [108, 106, 104]) 113 rfl).1.sub [117, 115, 113, 114, 1, 102, 0], .inl ⟨rfl, by exact getAt_next hg hE0_ hxa_ (find_not hup_ hq1_19 hq2_19 hq3_19 (by intro y_ hy_; first | (exfalso; have h_ := (List.getElem?_eq_some_iff.1 hy_).1; omega) | (rw [hx21] at hy_; cases hy_; assumption))), (hW_.gather (ids := [108, 106, 104]) 113 rfl).2⟩⟩⟩
      · -- FBF
        refine VD.gn rfl rfl (.inl ⟨_, rfl, rfl⟩) ?_
        refine VD.gn rfl rfl (.inl ⟨_, rfl, rfl⟩) ?_
        refine VD.gn rfl rfl (.inl ⟨_, rfl, rfl⟩) ?_
        refine VD.gn rfl rfl (.inl ⟨_, rfl, rfl⟩) ?_
        refine VD.gn rfl rfl (.inl ⟨_, rfl, rfl⟩) ?_
        refine VD.gn rfl rfl (.inl ⟨_, rfl, rfl⟩) ?_
        refine VD.gn rfl rfl (.inl ⟨_, rfl, rfl⟩) ?_
        refine VD.nil rfl ?_ rfl
        refine VO.gN ?_
        refine VO.y rfl (.pF rfl rfl) ?_
        refine VO.k10 0 1 3 4 5 6 8 9 11 38 ?_
        refine outN ?_
        refine VX.condF rfl ?_
        refine VX.skip ?_
        refine outBN ?_
        exact ⟨rfl, fun W_ hW_ => ⟨⟨val, met, th⟩, (hW_.gather (ids := [108, 106, 104]) 113 rfl).1.sub [117, 115, 113, 114, 1, 102, 0], .inl ⟨rfl, by exact getAt_next hg hE0_ hxa_ (find_not hup_ hq1_19 hq2_19 hq3_19 (by intro y_ hy_; first | (exfalso; have h_ := (List.getElem?_eq_some_iff.1 hy_).1; omega) | (rw [hx21] at hy_; cases hy_; assumption))), (hW_.gather (ids := [108, 106, 104]) 113 rfl).2⟩⟩⟩
    · -- FD
      rintro Dr_ at_ ⟨val, met, th⟩ ⟨hg, hSep_⟩ hDn_
      replace hg : getAt d0.2.2 d1 at_ := hg
      replace hSep_ : Seps (muns [mone g7 (.cells [Value.bool th].toArray 4 (0, 0)), mone g5 (.cells [Value.bool met].toArray 4 (0, 0)), mone g3 (.cells [str (val)].toArray 9 (0, 0))]) [mone g7 (.cells [Value.bool th].toArray 4 (0, 0)), mone g5 (.cells [Value.bool met].toArray 4 (0, 0)), mone g3 (.cells [str (val)].toArray 9 (0, 0))] := hSep_
      refine outBN ?_
      refine outN ?_
      refine VX.parts 113 [108, 106, 104] rfl hSep_ ?_
      show VX _ _ _ _ _ _ _ [(0, Value.pointer (some ⟨g0, 0, none⟩)), (1, str (d1)), (3, Value.pointer (some ⟨g1, 0, none⟩)), (4, Value.pointer (some ⟨g3, 0, none⟩)), (5, Value.pointer (some ⟨g5, 0, none⟩)), (6, Value.pointer (some ⟨g7, 0, none⟩)), (11, Value.bool (decide (d0.1 = none))), (16, Value.func (.func 129) #[] ca11.toArray)] [(108, mone g7 (.cells [Value.bool th].toArray 4 (0, 0))), (106, mone g5 (.cells [Value.bool met].toArray 4 (0, 0))), (104, mone g3 (.cells [str (val)].toArray 9 (0, 0))), (114, mone Dr_ (.deferred (some []))), (1, mone g0 (.cells [Value.pointer ((d0.1).map fun g => ⟨g, 0, none⟩), Value.bool d0.2.1, Value.slice A0_2 (d0.2.2.length) (c0_2)].toArray E0 (0, 0))), (102, mone g1 (.cells [str (d1)].toArray 9 (0, 0))), (0, mout (wm W) (mone g0 (.cells [Value.pointer ((d0.1).map fun g => ⟨g, 0, none⟩), Value.bool d0.2.1, Value.slice A0_2 (d0.2.2.length) (c0_2)].toArray E0 (0, 0))))]
      refine VX.rs ?_
      refine VO.store (k := 1) (c' := [str ([])]) 104 rfl rfl (.inr ⟨tk9, rfl⟩) rfl rfl rfl rfl rfl ?_
      refine VO.store (k := 1) (c' := [Value.bool false]) 106 rfl rfl (.inr ⟨tk4, rfl⟩) rfl rfl rfl rfl rfl ?_
      refine VO.store (k := 1) (c' := [Value.bool false]) 108 rfl rfl (.inr ⟨tk4, rfl⟩) rfl rfl rfl rfl rfl ?_
      refine VO.k8 0 1 3 4 5 6 11 16 ?_
      refine VX.ret ?_
      refine ⟨114, rfl, ?_⟩
      refine ⟨_, _, res_run (rs := [.cell 4 9, .cell 5 4, .cell 6 4]) rfl (.one 104 rfl tk9 rfl ⟨_, _, _, mone_self _ _, rfl⟩ (.one 106 rfl tk4 rfl ⟨_, _, _, mone_self _ _, rfl⟩ (.one 108 rfl tk4 rfl ⟨_, _, _, mone_self _ _, rfl⟩ .nil))), fun W_ hI => out_of (l := [mone g0 (.cells [Value.pointer ((d0.1).map fun g => ⟨g, 0, none⟩), Value.bool d0.2.1, Value.slice A0_2 (d0.2.2.length) (c0_2)].toArray E0 (0, 0))]) hI [1] rfl rfl (mle_refl _) (fun hS_ => ?_)⟩
      dsimp only [packV]
      refine ⟨?_, ?_⟩
      rotate_left
      · rw [muns_one]
      all_goals (first | rfl | (first | (rw [hs] <;> first | done | rfl) | (rw [getAt_end hg hDn_] <;> first | done | rfl)))
    · -- FX
      rintro Dr_ _ ⟨val, met, th⟩ ⟨rfl, hs, hSep_⟩ _
      replace hs : getR d0.2.2 d1 = (val, met, th) := hs
      replace hSep_ : Seps (muns [mone g7 (.cells [Value.bool th].toArray 4 (0, 0)), mone g5 (.cells [Value.bool met].toArray 4 (0, 0)), mone g3 (.cells [str (val)].toArray 9 (0, 0))]) [mone g7 (.cells [Value.bool th].toArray 4 (0, 0)), mone g5 (.cells [Value.bool met].toArray 4 (0, 0)), mone g3 (.cells [str (val)].toArray 9 (0, 0))] := hSep_
      refine outBR ?_
      refine outR ?_
      refine ⟨114, rfl, ?_⟩
      refine ⟨_, _, res_run (rs := [.cell 4 9, .cell 5 4, .cell 6 4]) rfl (.one 113 rfl tk9 rfl ⟨_, _, _, hSep_.1 _ (.tail _ (.tail _ (.head _))) _ _ (mone_self _ _), rfl⟩ (.one 113 rfl tk4 rfl ⟨_, _, _, hSep_.1 _ (.tail _ (.head _)) _ _ (mone_self _ _), rfl⟩ (.one 113 rfl tk4 rfl ⟨_, _, _, hSep_.1 _ (.head _) _ _ (mone_self _ _), rfl⟩ .nil))), fun W_ hI => out_of (l := [mone g0 (.cells [Value.pointer ((d0.1).map fun g => ⟨g, 0, none⟩), Value.bool d0.2.1, Value.slice A0_2 (d0.2.2.length) (c0_2)].toArray E0 (0, 0))]) hI [1] rfl rfl (mle_refl _) (fun hS_ => ?_)⟩
      dsimp only [packV]
      refine ⟨?_, ?_⟩
      rotate_left
      · rw [muns_one]
      all_goals (first | rfl | (first | (rw [hs] <;> first | done | rfl) | (rw [getAt_end hg hDn_] <;> first | done | rfl)))
abbrev TtableTable : Ty := .tmap
abbrev DtableTable := MapD
theorem openO_tableTable {m : Mem} {cs : List Value} {x0 : MapD} (h : Ow TtableTable m cs x0) : ∃ (r0 : Nat), ∃ (n0 : Mem), cs = [(.map (some r0) : Value)] ∧ Seps m [n0] ∧ Ow .tmap n0 [.map (some r0)] x0 := by
  have z1 := h
  obtain ⟨r1, rfl⟩ := Ow.map1 h
  exact ⟨r1, _, rfl, Seps.one (mle_refl _), z1⟩
theorem mkO_tableTable {m : Mem} {n0 : Mem} (x0 : MapD) (hS : Seps m [n0]) {v0 : Value} (h0 : Ow .tmap n0 [v0] x0) : Ow TtableTable m [v0] x0 := by
  exact (h0.up (hS.1 _ (.head _)))
theorem openP_tableTable {m : Mem} {cs : List Value} {g : Nat} {x0 : MapD} (h : Ow (.ptr TtableTable) m cs (g, x0)) : ∃ (E : TypeId), ∃ (r0 : Nat), ∃ (n0 : Mem), cs = [.pointer (some ⟨g, 0, none⟩)] ∧ Seps m [mone g (.cells [(.map (some r0) : Value)].toArray E (0, 0)), n0] ∧ Ow .tmap n0 [.map (some r0)] x0 := by
  obtain ⟨rfl, rc, E, m1, hd, l0, l1, h1⟩ := Ow.opnP h
  obtain ⟨r0, n0, rfl, hS, f0⟩ := openO_tableTable h1
  exact ⟨E, r0, n0, rfl, Seps.app hd l0 l1 (Seps.one (mle_refl _)) hS, f0⟩
theorem mkP_tableTable {m : Mem} {g : Nat} {E : TypeId} {n0 : Mem}{v0 : Value} (x0 : MapD) (hS : Seps m [mone g (.cells [v0].toArray E (0, 0)), n0]) (h0 : Ow .tmap n0 [v0] x0) : Ow (.ptr TtableTable) m [.pointer (some ⟨g, 0, none⟩)] (g, x0) :=
  Ow.clsP hS fun hS => mkO_tableTable x0 hS h0
section
variable {l m all : List DRun} {r x : DRun} {B s : Bytes} {n : Nat}
theorem rFrames_app : rFrames (l ++ m) = rFrames l ++ rFrames m := by simp [rFrames]
theorem rFrames_one : rFrames [r] = rFrame r := by simp [rFrames]
end
section
variable {d : DDisk} {B b : Bytes} {n : Int} {l all sure : List DRun} {x : DRun} {k t : Int}
/-- all is flushed; the disk is on -/
def Ku (d : DDisk) (l : List DRun) : Prop := d.2.1 = false ∧ okU l ∧ ∃ A, Pg d A A ∧ getF A 2 = rFrames l
/-- the disk may be off -/
def Kq (d : DDisk) (all sure : List DRun) : Prop := okU all ∧ sure <+: all ∧ ∃ A S, Pg d A S ∧ getF A 2 <+: rFrames all ∧ getF S 2 = rFrames sure
theorem ku_new : Ku newD [] := ⟨rfl, okU_nil, ([], [], [], []), pg_none ⟨okD_new, rfl, rfl, rfl⟩ rfl, rfl⟩
theorem ku_on (h : Ku d l) : onD d := by
  obtain ⟨h1, h2, A, h4, h5⟩ := h
  exact ⟨h4.made, h1⟩
theorem ku_flush (h : Ku d l) (hc : runCheck x = 0) (hx : x.1 = endR l + 1) :
    ((uFlush d false l x).2 = 0 ∧ Ku (uFlush d false l x).1.1 (l ++ [x]) ∧ (uFlush d false l x).1.2 = (false, l ++ [x])) ∨ ((uFlush d false l x).2 = 6 ∧ Kq (uFlush d false l x).1.1 (l ++ [x]) l ∧ (uFlush d false l x).1.2 = (true, l)) := by
  have ho := ku_on h
  obtain ⟨o1, o2, A, o4, o5⟩ := h
  have hl := okU_snoc o2 hc hx
  have e0 : ∀ (br : Bool), ¬ (false = true ∨ ¬ onD d) := fun _ q => q.elim (by decide) (· ho)
  unfold uFlush
  rw [if_neg (e0 false), if_neg (not_not_intro hc), if_neg (not_not_intro hx)]
  obtain ⟨p, p1, p2, p3⟩ := pg_write (f := 2) (b := rFrame x) o4 o1 (by decide)
  have e : getF (setF A 2 (getF A 2 ++ p)) 2 = rFrames l ++ p := by rw [get_set (by decide) (by decide), if_pos rfl, o5]
  rcases p3 with ⟨q1, q2, q3⟩ | ⟨q1, q2⟩
  · rw [if_neg (not_not_intro q1)]
    subst q2
    rcases pg_sync p2 q3 with ⟨r1, r2, r3, r4⟩ | ⟨r1, r2, r3⟩
    · rw [if_neg (not_not_intro r1)]
      left; exact ⟨rfl, ⟨r3, hl, _, r2, by rw [e, rFrames_app, rFrames_one]⟩, rfl⟩
    · rw [if_pos (by rw [r1]; decide)]
      right; exact ⟨r1, ⟨hl, List.prefix_append _ _, _, A, r2, by rw [e, rFrames_app, rFrames_one]; exact List.prefix_refl _, o5⟩, rfl⟩
  · rw [if_pos (by rw [q1]; decide)]
    right; exact ⟨q1, ⟨hl, List.prefix_append _ _, _, A, p2, by rw [e, rFrames_app, rFrames_one]; exact (List.prefix_append_right_inj _).2 p1, o5⟩, rfl⟩
end
section
variable {t l : List DOp} {o x : DOp} {k : Nat}
theorem ups_tail (h : opsUp (x :: t)) : opsUp t := ⟨fun y hy => h.1 y (.tail _ hy), (List.pairwise_cons.1 h.2).2⟩
end
abbrev Dref07Table := Bool × (List DOp)
instance decref07Table : DecidableEq Dref07Table := (@instDecidableEqProd _ _ inferInstance inferInstance)
section
variable {t : Dref07Table} {l tl : List DOp} {o x : DOp} {k : Nat}
theorem all_one {k : Nat} (ha : ∀ o ∈ l.take k, opCheck o = 0) (hx : l[k]? = some x) (hc : ¬ ¬ opCheck x = 0) : ∀ o ∈ l.take (k + 1), opCheck o = 0 := fun o ho => by
  rw [take_one hx] at ho
  rcases List.mem_append.1 ho with ho | ho
  · exact ha o ho
  · rw [List.mem_singleton.1 ho]; exact Decidable.not_not.1 hc
end
def mPutO (t : MapD) (o : DOp) : MapD := mPut t o.2.1 (o.2.2, o.1)
def mApply (t : MapD) (l : List DOp) : MapD × Int := if ∀ o ∈ l, opCheck o = 0 then (l.foldl mPutO t, 0) else (t, 2)
section
variable {t : MapD} {l : List DOp} {x : DOp} {k : Nat}
theorem mfold_next (hx : l[k]? = some x) : (l.take (k + 1)).foldl mPutO t = mPut ((l.take k).foldl mPutO t) x.2.1 (x.2.2, x.1) := by rw [take_one hx, List.foldl_append]; rfl
theorem mApply_bad (hx : l[k]? = some x) (hc : ¬ opCheck x = 0) : mApply t l = (t, 2) := if_neg fun q => hc (q x (List.mem_of_getElem? hx))
theorem mApply_good (hc : ∀ o ∈ l, opCheck o = 0) : mApply t l = (l.foldl mPutO t, 0) := if_pos hc
end
def opPair (o : DOp) : List UInt8 × Bool := (o.2.2, o.1)
section
variable {t : MapD} {u : List DRun} {l y : List DOp} {q : Bytes} {d : DDisk} {br : Bool} {i : Nat} {x : DRun}
/-- no fuse; all is flushed -/
def Kz (d : DDisk) (u : List DRun) : Prop := Onn d ∧ Ku d u
theorem kz_new : Kz newD [] := ⟨⟨okD_new, rfl, rfl, rfl⟩, ku_new⟩
theorem kz_flush (h : Kz d u) (hc : runCheck x = 0) (hx : x.1 = endR u + 1) : (uFlush d false u x).2 = 0 ∧ Kz (uFlush d false u x).1.1 (u ++ [x]) ∧ (uFlush d false u x).1.2 = (false, u ++ [x]) := by
  obtain ⟨w1, w2, _⟩ := on_write (f := 2) (b := rFrame x) h.1 (by decide)
  obtain ⟨s1, s2, _⟩ := on_sync w2
  have e : uFlush d false u x = (((dSync (dWrite d 2 (rFrame x)).1).1, false, u ++ [x]), 0) := by
    unfold uFlush
    rw [if_neg (fun q => q.elim (by decide) (· (ku_on h.2))), if_neg (not_not_intro hc), if_neg (not_not_intro hx), if_neg (not_not_intro w1), if_neg (not_not_intro s1)]
  rcases ku_flush h.2 hc hx with ⟨a, b, c⟩ | ⟨a, _⟩
  · exact ⟨a, ⟨by rw [e]; exact s2, b⟩, c⟩
  · rw [e] at a; cases a
end
theorem fnOk56 : fnOk Tryz.prog 56 = true := by kernel_rfl
theorem tk108 : tk Tryz.prog 108 = some none := by kernel_rfl
theorem tk113 : tk Tryz.prog 113 = some (some 2) := by kernel_rfl
theorem tst110 : tst Tryz.prog 110 = some [(0, 1)] := by kernel_rfl
theorem tst113 : tst Tryz.prog 113 = some [(0, 1), (1, 1)] := by kernel_rfl
theorem tz110 : tz Tryz.prog 110 = some [.map none] := by kernel_rfl
theorem tz113 : tz Tryz.prog 113 = some [.string ⟨#[]⟩, .bool false] := by kernel_rfl
theorem tNew_ok (W : World) : CallR Tryz.prog 23 [] W (mnil) (fun v m' => ∃ (s0 : Nat), v = .pointer (some ⟨s0, 0, none⟩) ∧ Ow (.ptr TtableTable) m' [.pointer (some ⟨s0, 0, none⟩)] (s0, ([] : MapD))) := by
  refine CallR.ofA (n := 4) Tryz.func23 rfl rfl rfl ?_
  refine VC.rs ?_
  refine VO.as ?_
  refine VO.k1 0 ?_
  refine VC.rs ?_
  refine VO.mkmap 101 rfl (fun gm1 mm1 hm1 => ?_)
  refine VO.y rfl (.bst (cs := [Value.map (some gm1)]) rfl tst110 tz110 rfl) ?_
  refine VO.box (cs := [Value.map (some gm1)]) 103 rfl rfl rfl (fun g2 => ?_)
  refine VO.as ?_
  refine VO.k1 0 ?_
  refine VC.ret ?_
  refine ⟨_, _, res_run (rs := [.tmp 0]) rfl (.tmp rfl .nil), fun W_ hI => out_of (l := [mone g2 (.cells [Value.map (some gm1)].toArray 110 (0, 0)), mm1]) hI [103, 101] rfl rfl (mle_refl _) (fun hS_ => ?_)⟩
  dsimp only [packV]
  have he0 : (([] : MapD) : DtableTable) = [] := by first | rfl | (simp [*]; done)
  refine ⟨g2, ?_, ?_⟩
  rotate_left
  · rw [he0]; exact (mkP_tableTable [] hS_ hm1)
  all_goals (first | rfl | (simp [*]; done))
theorem tNone_ok (W : World) {m0 : Mem} (hm : mle (m0) (wm W)) {g0 : Nat} {d0 : DtableTable} (h0 : Ow (.ptr TtableTable) m0 [.pointer (some ⟨g0, 0, none⟩)] (g0, d0)) : CallR Tryz.prog 56 [.pointer (some ⟨g0, 0, none⟩)] W (m0) (fun v m' => v = .bool (decide (False)) ∧ Ow (.ptr TtableTable) m' [.pointer (some ⟨g0, 0, none⟩)] (g0, d0)) := by
  refine CallR.ofB (n := 12) hm Tryz.func56 rfl rfl rfl ?_
  refine VC.rs ?_
  refine VO.as ?_
  refine VO.k2 0 2 ?_
  refine VC.rs ?_
  refine VO.mv ?_
  refine VO.y rfl (.pnil rfl rfl Tryz.underlying37 rfl) ?_
  refine VO.mv ?_
  refine VO.gy rfl ⟨_, rfl, rfl⟩ (.mv rfl) ?_
  refine VO.gy rfl ⟨_, rfl, rfl⟩ (.nilp rfl) ?_
  refine VO.gy rfl ⟨_, rfl, rfl⟩ (.fa rfl tst110 rfl) ?_
  obtain ⟨q1_E, q1_r0, q1_n0, _, q1_S, q1_0⟩ := openP_tableTable (x0 := d0) h0
  refine VO.inv _ (fun _ h => h.parts (i := 1) rfl q1_S [103, 102]) ?_
  refine VO.gy rfl ⟨_, rfl, rfl⟩ (.ld1 103 rfl tk108 rfl (cellsAt_one rfl rfl)) ?_
  refine VO.gy rfl ⟨_, rfl, rfl⟩ (.mnil rfl rfl Tryz.underlying108) ?_
  refine VO.y rfl (.pF rfl rfl) ?_
  refine VO.as ?_
  refine VO.clsP 104 [103, 102] rfl (fun hg4 => (mkP_tableTable d0 hg4 q1_0)) (fun mc4 ho4 => ?_)
  refine VO.k2 0 2 ?_
  refine VC.ret ?_
  refine ⟨_, _, res_run (rs := [.tmp 2]) rfl (.tmp rfl .nil), fun W_ hI => out_of (l := [mc4]) hI [104] rfl rfl (mle_refl _) (fun hS_ => ?_)⟩
  dsimp only [packV]
  have hm0_ : (d0 : DtableTable) = d0 := by first | rfl | (simp [*]; done)
  refine ⟨?_, ?_⟩
  rotate_left
  · rw [hm0_]; exact (Ow.up ho4 (hS_.1 _ (.head _)))
  all_goals (first | rfl | (rfl))
theorem tApply_ok (W : World) {m0 : Mem} (hm : mle (m0) (wm W)) {g0 : Nat} {d0 : DtableTable} (h0 : Ow (.ptr TtableTable) m0 [.pointer (some ⟨g0, 0, none⟩)] (g0, d0)) {v1 : Value} {d1 : List DOp} (h1 : Rd (.sl TOp) (mout (wm W) (m0)) [v1] d1) : CallR Tryz.prog 24 [.pointer (some ⟨g0, 0, none⟩), v1] W (m0) (fun v m' => v = .int .i64 ((mApply d0 d1).2) ∧ Ow (.ptr TtableTable) m' [.pointer (some ⟨g0, 0, none⟩)] (g0, (mApply d0 d1).1)) := by
  obtain ⟨A1, c1, rfl, l1, k1⟩ := h1.slice
  simp only [maxLen] at k1
  refine CallR.ofB (n := 39) hm Tryz.func24 rfl rfl rfl ?_
  refine VC.rs ?_
  refine VO.as ?_
  refine VO.k3 0 1 4 ?_
  refine VC.seq ?_
  refine VC.rs ?_
  refine VO.mv ?_
  refine VO.call 1 rfl fnOk56 rfl rfl (fun W hW => tNone_ok W (hW.at (i := 1) rfl) h0) (fun v1 m1 hv1 => ?_)
  obtain ⟨rfl, w1_0⟩ := hv1
  refine VO.k4 0 1 4 10 ?_
  refine VC.cond rfl (fun hc2 => ?_) (fun hc2 => ?_)
  · -- T
    exact hc2.elim
  · -- F
    refine VC.skip ?_
    refine outN ?_
    refine VC.seq ?_
    refine VC.rs ?_
    refine VO.mv ?_
    refine VO.y rfl (.lenS rfl tsl34) ?_
    refine VO.mv ?_
    refine VO.kp [1, 0] [(1, m1), (0, mout (wm W) (m0))] ?_
    refine VO.k7 0 1 4 10 11 12 13 ?_
    refine VC.block ?_
    refine VC.loop (G := Nat) (fun k => [(13, Value.int .i64 (((k : Nat) : Int))), (0, Value.pointer (some ⟨g0, 0, none⟩)), (1, Value.slice A1 (d1.length) (c1)), (10, Value.bool (decide (False))), (11, Value.slice A1 (d1.length) (c1)), (12, Value.int .i64 (((d1.length : Nat) : Int)))]) (fun k => [(1, m1), (0, mout (wm W) (m0))]) (fun k => (k ≤ d1.length) ∧ (∀ o ∈ d1.take k, opCheck o = 0)) (fun k => d1.length - k) 0 (⟨by omega, by simp⟩) ⟨⟨rfl, rfl, rfl, rfl, rfl, rfl, trivial⟩, fun _ h => h.sub [1, 0]⟩ ?_
    rintro k ⟨hk, ha⟩
    refine VC.rs ?_
    refine VO.y rfl (.lss rfl rfl) ?_
    refine VO.k7 0 1 10 11 12 13 14 ?_
    refine VC.seq ?_
    refine VC.cond rfl (fun hc3 => ?_) (fun hc3 => ?_)
    · -- FT
      refine VC.skip ?_
      refine outN ?_
      refine VC.seq ?_
      refine VC.block ?_
      refine VC.rs ?_
      obtain ⟨x4, hx4⟩ : ∃ z_, (d1)[k]? = some z_ := ⟨_, List.getElem?_eq_getElem bd⟩
      obtain ⟨gg4, oo4, ec4, ea4, hce4, hre4⟩ := h1.elem hx4
      cases ea4
      obtain ⟨rfl, q4_1, q4_2⟩ := open_Op (x0 := x4.1) (x1 := x4.2.1) (x2 := x4.2.2) hre4
      simp only [maxLen] at q4_1
      simp only [maxLen] at q4_2
      refine VO.y rfl (.ixI k rfl rfl tsl34 rfl bd) ?_
      refine VO.y rfl (.ldA 0 rfl tk64 rfl hce4) ?_
      refine VO.alloc 106 rfl tz64 (fun g5 => ?_)
      refine VO.store (k := 3) (c' := [Value.bool x4.1, str (x4.2.1), str (x4.2.2)]) 106 rfl rfl (.inl tk64) rfl rfl rfl rfl rfl ?_
      refine VO.k8 0 1 6 10 11 12 13 14 ?_
      refine VC.rs ?_
      refine VO.y rfl (.ldA 106 rfl tk64 rfl (cellsAt_one rfl rfl)) ?_
      refine VO.callN 107 rfl fnOk57 rfl (fun W hW => opCheck_ok W (Rd.mono hre4 (hW.at (i := 0) rfl))) (fun v7 m7 hv7 => ?_)
      subst hv7
      refine VO.y rfl (.neq rfl rfl) ?_
      refine VO.kp [106, 1, 0] [(106, mone g5 (.cells [Value.bool x4.1, str (x4.2.1), str (x4.2.2)].toArray 64 (0, 0))), (1, m1), (0, mout (wm W) (m0))] ?_
      refine VO.k9 0 1 6 10 11 12 13 14 19 ?_
      refine VC.cond rfl (fun hc8 => ?_) (fun hc8 => ?_)
      · -- FTT
        refine VC.rs ?_
        refine VO.as ?_
        refine VO.k10 0 1 4 6 10 11 12 13 14 19 ?_
        refine VC.ret ?_
        refine outBR ?_
        refine outR ?_
        refine outR ?_
        refine outBR ?_
        refine outR ?_
        refine ⟨_, _, res_run (rs := [.tmp 4]) rfl (.tmp rfl .nil), fun W_ hI => out_of (l := [m1]) hI [1] rfl rfl (mle_refl _) (fun hS_ => ?_)⟩
        dsimp only [packV]
        have hm0_ : ((mApply d0 d1).1 : DtableTable) = d0 := by first | rfl | (first | exact congrArg Prod.fst (mApply_bad ‹d1[k]? = some _› (by assumption)) | (rw [mApply_good (by have h_ := ha; rw [List.take_of_length_le (by omega)] at h_; exact h_), ht, List.take_of_length_le (by omega)]; done))
        refine ⟨?_, ?_⟩
        rotate_left
        · rw [hm0_]; exact (Ow.up w1_0 (hS_.1 _ (.head _)))
        all_goals (first | rfl | (first | exact congrArg (Value.int _) (congrArg Prod.snd (mApply_bad ‹d1[k]? = some _› (by assumption))).symm | exact congrArg (Value.int _) (congrArg Prod.snd (mApply_good (by have h_ := ha; rw [List.take_of_length_le (by omega)] at h_; exact h_))).symm))
      · -- FTF
        refine VC.skip ?_
        refine outBN ?_
        refine outN ?_
        refine VC.reg ?_
        refine VO.y rfl (.add (c := ((k + 1 : Nat) : Int)) rfl rfl (by omega) ⟨bd, bd⟩) ?_
        refine VO.mv ?_
        refine VO.k9 0 1 6 10 11 12 13 14 19 ?_
        exact outN ⟨k + 1, ⟨by omega, by exact all_one ha ‹d1[k]? = some _› (by assumption)⟩, bd, ⟨⟨rfl, rfl, rfl, rfl, rfl, rfl, trivial⟩, fun _ h => Inv.sub h [1, 0]⟩⟩
    · -- FF
      refine VC.exit ?_
      refine outE ?_
      refine outE ?_
      refine outBB ?_
      refine outN ?_
      refine VC.seq ?_
      refine VC.rs ?_
      refine VO.mv ?_
      refine VO.y rfl (.lenS rfl tsl34) ?_
      refine VO.mv ?_
      refine VO.k10 0 1 10 11 12 13 14 21 22 23 ?_
      refine VC.block ?_
      refine VC.loop (G := Nat × DtableTable × Mem) (fun g => [(23, Value.int .i64 ((((g.1) : Nat) : Int))), (0, Value.pointer (some ⟨g0, 0, none⟩)), (1, Value.slice A1 (d1.length) (c1)), (10, Value.bool (decide (False))), (11, Value.slice A1 (d1.length) (c1)), (12, Value.int .i64 (((d1.length : Nat) : Int))), (13, Value.int .i64 (((k : Nat) : Int))), (14, Value.bool (decide (((k : Nat) : Int) < ((d1.length : Nat) : Int)))), (21, Value.slice A1 (d1.length) (c1)), (22, Value.int .i64 (((d1.length : Nat) : Int)))]) (fun g => [(1, (g.2.2)), (0, mout (wm W) (m0))]) (fun g => ((g.1) ≤ d1.length) ∧ ((g.2.1) = (d1.take (g.1)).foldl mPutO d0) ∧ (Ow (.ptr TtableTable) (g.2.2) [.pointer (some ⟨g0, 0, none⟩)] (g0, (g.2.1)))) (fun g => d1.length - (g.1)) (0, d0, m1) (⟨by omega, by rfl, w1_0⟩) ⟨⟨rfl, rfl, rfl, rfl, rfl, rfl, rfl, rfl, rfl, rfl, trivial⟩, fun _ h => h.sub [1, 0]⟩ ?_
      rintro ⟨j, t, t_m⟩ ⟨hj, ht, h_t⟩
      replace hj : j ≤ d1.length := hj
      replace ht : t = (d1.take j).foldl mPutO d0 := ht
      replace h_t : Ow (.ptr TtableTable) t_m [.pointer (some ⟨g0, 0, none⟩)] (g0, t) := h_t
      show VC _ _ _ _ _ [(23, Value.int .i64 (((j : Nat) : Int))), (0, Value.pointer (some ⟨g0, 0, none⟩)), (1, Value.slice A1 (d1.length) (c1)), (10, Value.bool (decide (False))), (11, Value.slice A1 (d1.length) (c1)), (12, Value.int .i64 (((d1.length : Nat) : Int))), (13, Value.int .i64 (((k : Nat) : Int))), (14, Value.bool (decide (((k : Nat) : Int) < ((d1.length : Nat) : Int)))), (21, Value.slice A1 (d1.length) (c1)), (22, Value.int .i64 (((d1.length : Nat) : Int)))] [(1, t_m), (0, mout (wm W) (m0))]
      refine VC.rs ?_
      refine VO.y rfl (.lss rfl rfl) ?_
      refine VO.kp [1, 0] [(1, t_m), (0, mout (wm W) (m0))] ?_
      refine VO.k11 0 1 10 11 12 13 14 21 22 23 24 ?_
      refine VC.seq ?_
      refine VC.cond rfl (fun hc9 => ?_) (fun hc9 => ?_)
      · -- FFT
        refine VC.skip ?_
        refine outN ?_
        refine VC.seq ?_
        refine VC.block ?_
        refine VC.rs ?_
        obtain ⟨x10, hx10⟩ : ∃ z_, (d1)[j]? = some z_ := ⟨_, List.getElem?_eq_getElem bd⟩
        obtain ⟨gg10, oo10, ec10, ea10, hce10, hre10⟩ := h1.elem hx10
        cases ea10
        obtain ⟨rfl, q10_1, q10_2⟩ := open_Op (x0 := x10.1) (x1 := x10.2.1) (x2 := x10.2.2) hre10
        simp only [maxLen] at q10_1
        simp only [maxLen] at q10_2
        refine VO.y rfl (.ixI j rfl rfl tsl34 rfl bd) ?_
        refine VO.y rfl (.ldA 0 rfl tk64 rfl hce10) ?_
        refine VO.alloc 112 rfl tz64 (fun g11 => ?_)
        refine VO.store (k := 3) (c' := [Value.bool x10.1, str (x10.2.1), str (x10.2.2)]) 112 rfl rfl (.inl tk64) rfl rfl rfl rfl rfl ?_
        refine VO.k12 0 1 8 10 11 12 13 14 21 22 23 24 ?_
        obtain ⟨q13_E, q13_r0, q13_n0, _, q13_S, q13_0⟩ := openP_tableTable (x0 := t) h_t
        refine VC.inv _ (fun _ h => h.parts (i := 1) rfl q13_S [115, 114]) ?_
        refine VC.regD _ 11 [(0, true), (1, true), (2, true), (3, true), (4, true), (5, true), (6, true), (7, true), (8, true), (9, true), (10, true)] follows (by kernel_rfl) (fun _ h => h.sub [115, 114, 112, 0]) ?_
        refine VD.y rfl rfl (.inl rfl) (.mv rfl) ?_
        refine VD.y rfl rfl (.inl rfl) (.nilp rfl) ?_
        refine VD.y rfl rfl (.inl rfl) (.fa rfl tst110 rfl) ?_
        refine VD.y rfl rfl (.inl rfl) (.ld1 115 rfl tk108 rfl (cellsAt_one rfl rfl)) ?_
        refine VD.y rfl rfl (.inl rfl) (.fa rfl tst64 rfl) ?_
        refine VD.y rfl rfl (.inl rfl) (.ld1 112 rfl tk9 rfl (cellsAt_one rfl rfl)) ?_
        refine VD.y rfl rfl (.inl rfl) (.fa rfl tst64 rfl) ?_
        refine VD.y rfl rfl (.inl rfl) (.ld1 112 rfl tk9 rfl (cellsAt_one rfl rfl)) ?_
        refine VD.y rfl rfl (.inl rfl) (.fa rfl tst64 rfl) ?_
        refine VD.y rfl rfl (.inl rfl) (.ld1 112 rfl tk4 rfl (cellsAt_one rfl rfl)) ?_
        refine VD.y rfl rfl (.inl rfl) (.bst (cs := [str (x10.2.2), Value.bool x10.1]) rfl tst113 tz113 rfl) ?_
        refine VD.nil rfl ?_ rfl
        refine VO.mupd (v := (x10.2.2, x10.1)) 114 rfl rfl rfl Tryz.underlying108 Tryz.underlying9 rfl q13_0 bdm bdm (fun mu16 hu16 => ?_)
        refine VO.clsP 117 [115, 114] rfl (fun hg17 => (mkP_tableTable (mPut t x10.2.1 (x10.2.2, x10.1)) hg17 hu16)) (fun mc17 ho17 => ?_)
        refine VO.k12 0 1 8 10 11 12 13 14 21 22 23 24 ?_
        refine outBN ?_
        refine outN ?_
        refine VC.reg ?_
        refine VO.y rfl (.add (c := ((j + 1 : Nat) : Int)) rfl rfl (by omega) ⟨bd, bd⟩) ?_
        refine VO.mv ?_
        refine VO.kp [117, 112, 0] [(117, mc17), (112, mone g11 (.cells [Value.bool x10.1, str (x10.2.1), str (x10.2.2)].toArray 64 (0, 0))), (0, mout (wm W) (m0))] ?_
        refine VO.k12 0 1 8 10 11 12 13 14 21 22 23 24 ?_
        exact outN ⟨⟨j + 1, mPut t x10.2.1 (x10.2.2, x10.1), mc17⟩, ⟨by omega, by (rw [ht, mfold_next ‹d1[j]? = some _›]; done), ho17⟩, bd, ⟨⟨rfl, rfl, rfl, rfl, rfl, rfl, rfl, rfl, rfl, rfl, trivial⟩, fun _ h => Inv.sub (Inv.num h 117 1 rfl) [1, 0]⟩⟩
      · -- FFF
        refine VC.exit ?_
        refine outE ?_
        refine outE ?_
        refine outBB ?_
        refine outN ?_
        refine VC.rs ?_
        refine VO.as ?_
        refine VO.k12 0 1 4 10 11 12 13 14 21 22 23 24 ?_
        refine VC.ret ?_
        refine ⟨_, _, res_run (rs := [.tmp 4]) rfl (.tmp rfl .nil), fun W_ hI => out_of (l := [t_m]) hI [1] rfl rfl (mle_refl _) (fun hS_ => ?_)⟩
        dsimp only [packV]
        have hm0_ : ((mApply d0 d1).1 : DtableTable) = t := by first | rfl | (first | exact congrArg Prod.fst (mApply_bad ‹d1[k]? = some _› (by assumption)) | (rw [mApply_good (by have h_ := ha; rw [List.take_of_length_le (by omega)] at h_; exact h_), ht, List.take_of_length_le (by omega)]; done))
        refine ⟨?_, ?_⟩
        rotate_left
        · rw [hm0_]; exact (Ow.up h_t (hS_.1 _ (.head _)))
        all_goals (first | rfl | (first | exact congrArg (Value.int _) (congrArg Prod.snd (mApply_bad ‹d1[k]? = some _› (by assumption))).symm | exact congrArg (Value.int _) (congrArg Prod.snd (mApply_good (by have h_ := ha; rw [List.take_of_length_le (by omega)] at h_; exact h_))).symm))
theorem tGet_ok (W : World) {m0 : Mem} (hm : mle (m0) (wm W)) {g0 : Nat} {d0 : DtableTable} (h0 : Ow (.ptr TtableTable) m0 [.pointer (some ⟨g0, 0, none⟩)] (g0, d0)) (d1 : List UInt8) (h1 : d1.length ≤ maxLen) : CallR Tryz.prog 26 [.pointer (some ⟨g0, 0, none⟩), str d1] W (m0) (fun v m' => v = .tuple #[str (((mGet d0 d1).getD ([], false)).1), .bool ((mGet d0 d1).isSome), .bool (((mGet d0 d1).getD ([], false)).2)] ∧ Ow (.ptr TtableTable) m' [.pointer (some ⟨g0, 0, none⟩)] (g0, d0)) := by
  have h1' := h1; simp only [maxLen] at h1'
  refine CallR.ofB (n := 25) hm Tryz.func26 rfl rfl rfl ?_
  refine VC.rs ?_
  refine VO.as ?_
  refine VO.as ?_
  refine VO.as ?_
  refine VO.k5 0 1 4 5 6 ?_
  refine VC.seq ?_
  refine VC.rs ?_
  refine VO.mv ?_
  refine VO.call 1 rfl fnOk56 rfl rfl (fun W hW => tNone_ok W (hW.at (i := 1) rfl) h0) (fun v1 m1 hv1 => ?_)
  obtain ⟨rfl, w1_0⟩ := hv1
  refine VO.k6 0 1 4 5 6 10 ?_
  refine VC.cond rfl (fun hc2 => ?_) (fun hc2 => ?_)
  · -- T
    exact hc2.elim
  · -- F
    refine VC.skip ?_
    refine outN ?_
    refine VC.rs ?_
    refine VO.mv ?_
    refine VO.y rfl (.nilp rfl) ?_
    refine VO.y rfl (.fa rfl tst110 rfl) ?_
    obtain ⟨q3_E, q3_r0, q3_n0, _, q3_S, q3_0⟩ := openP_tableTable (x0 := d0) w1_0
    refine VO.inv _ (fun _ h => h.parts (i := 1) rfl q3_S [105, 104]) ?_
    refine VO.y rfl (.ld1 105 rfl tk108 rfl (cellsAt_one rfl rfl)) ?_
    refine VO.mv ?_
    have hgl6 := mGet_len (Ow.mapB q3_0) d1; simp only [maxLen] at hgl6
    refine VO.y rfl (.mlook 104 rfl rfl Tryz.underlying108 Tryz.underlying9 (zv_run (by kernel_rfl)) rfl (Ow.rd q3_0 (mle_refl _))) ?_
    refine VO.mv ?_
    refine VO.y rfl (.ext rfl rfl) ?_
    refine VO.y rfl (.ext rfl rfl) ?_
    refine VO.alloc 108 rfl tz113 (fun g7 => ?_)
    refine VO.store (k := 2) (c' := [str (((mGet d0 d1).getD ([], false)).1), Value.bool (((mGet d0 d1).getD ([], false)).2)]) 108 rfl rfl (.inl tk113) rfl rfl rfl rfl rfl ?_
    refine VO.as ?_
    refine VO.clsP 109 [105, 104] rfl (fun hg9 => (mkP_tableTable d0 hg9 q3_0)) (fun mc9 ho9 => ?_)
    refine VO.kp [109, 108, 0] [(109, mc9), (108, mone g7 (.cells [str (((mGet d0 d1).getD ([], false)).1), Value.bool (((mGet d0 d1).getD ([], false)).2)].toArray 113 (0, 0))), (0, mout (wm W) (m0))] ?_
    refine VO.k8 0 1 4 5 6 7 8 10 ?_
    refine VC.seq ?_
    refine VC.regD _ 7 [(0, true), (1, true), (2, true), (3, true), (4, true), (5, true), (6, true)] follows (by kernel_rfl) (fun _ h => h.sub [109, 108, 0]) ?_
    refine VD.y rfl rfl (.inl rfl) (.fa rfl tst113 rfl) ?_
    refine VD.y rfl rfl (.inl rfl) (.ld1 108 rfl tk9 rfl (cellsAt_one rfl rfl)) ?_
    refine VD.y rfl rfl (.inl rfl) (.mv rfl) ?_
    refine VD.y rfl rfl (.inl rfl) (.fa rfl tst113 rfl) ?_
    refine VD.y rfl rfl (.inl rfl) (.ld1 108 rfl tk4 rfl (cellsAt_one rfl rfl)) ?_
    refine VD.y rfl rfl (.inl rfl) (.as rfl) ?_
    refine VD.y rfl rfl (.inl rfl) (.as rfl) ?_
    refine VD.nil rfl ?_ rfl
    refine VO.as ?_
    refine VO.k8 0 1 4 5 6 7 8 10 ?_
    refine outN ?_
    refine VC.ret ?_
    refine ⟨_, _, res_run (rs := [.tmp 4, .tmp 5, .tmp 6]) rfl (.tmp rfl (.tmp rfl (.tmp rfl .nil))), fun W_ hI => out_of (l := [mc9]) hI [109] rfl rfl (mle_refl _) (fun hS_ => ?_)⟩
    dsimp only [packV]
    have hm0_ : (d0 : DtableTable) = d0 := by first | rfl | (simp [*]; done)
    refine ⟨?_, ?_⟩
    rotate_left
    · rw [hm0_]; exact (Ow.up ho9 (hS_.1 _ (.head _)))
    all_goals (first | rfl | (simp [*]; done))
end Go.Proofs.YtonbpfncmlijnaaGreat
