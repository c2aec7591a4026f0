/- Part 2 of the proof of LStoreAgain: what it needs of the library, the walks and the plain laws. Conditions: those named in each theorem. -/
import Derived.Test.YtonbpfncmlijnaaGreatLStoreAgainM1
set_option linter.unusedVariables false
set_option linter.unusedSimpArgs false
set_option maxRecDepth 4000
namespace Go.Proofs.YtonbpfncmlijnaaGreat
theorem fnOk22 : fnOk Tryz.prog 22 = true := by kernel_rfl
theorem teq64 (a0 : Bool) (a1 : List UInt8) (a2 : List UInt8) : plainS Tryz.prog 64 [.bool a0, str a1, str a2] = true := by kernel_rfl
theorem tk4 : tk Tryz.prog 4 = some none := by kernel_rfl
theorem tk64 : tk Tryz.prog 64 = some (some 3) := by kernel_rfl
theorem tk9 : tk Tryz.prog 9 = some none := by kernel_rfl
theorem tsl34 : tsl Tryz.prog 34 = some (64, 3, 40) := by kernel_rfl
theorem tsl97 : tsl Tryz.prog 97 = some (5, 1, 1) := by kernel_rfl
theorem tst64 : tst Tryz.prog 64 = some [(0, 1), (1, 1), (2, 1)] := by kernel_rfl
theorem tz5 : tz Tryz.prog 5 = some [.int .u8 0] := by kernel_rfl
theorem tz64 : tz Tryz.prog 64 = some [.bool false, .string ⟨#[]⟩, .string ⟨#[]⟩] := by kernel_rfl
theorem follows : Tryz.prog.follows .mixedOrders = true := by kernel_rfl
theorem SameOps_ok (W : World) {v0 : Value} {d0 : List DOp} (h0 : Rd (.sl TOp) (wm W) [v0] d0) {v1 : Value} {d1 : List DOp} (h1 : Rd (.sl TOp) (wm W) [v1] d1) : CallR Tryz.prog 22 [v0, v1] W (mnil) (fun v m' => v = .bool (decide (d0 = d1))) := by
  obtain ⟨A0, c0, rfl, l0, k0⟩ := h0.slice
  simp only [maxLen] at k0
  obtain ⟨A1, c1, rfl, l1, k1⟩ := h1.slice
  simp only [maxLen] at k1
  refine CallR.ofA (n := 26) Tryz.func22 rfl rfl rfl ?_
  refine VC.rs ?_
  refine VO.as ?_
  refine VO.k3 0 1 4 ?_
  refine VC.seq ?_
  refine VC.rs ?_
  refine VO.mv ?_
  refine VO.y rfl (.lenS rfl tsl34) ?_
  refine VO.mv ?_
  refine VO.y rfl (.lenS rfl tsl34) ?_
  refine VO.y rfl (.neq rfl rfl) ?_
  refine VO.k4 0 1 4 10 ?_
  refine VC.cond rfl (fun hc1 => ?_) (fun hc1 => ?_)
  · -- T
    refine VC.rs ?_
    refine VO.as ?_
    refine VO.kp [0] [(0, wm W)] ?_
    refine VO.k4 0 1 4 10 ?_
    refine VC.ret ?_
    refine outR ?_
    refine ⟨_, _, res_run (rs := [.tmp 4]) rfl (.tmp rfl .nil), fun W_ hI => out_of (l := []) hI [] rfl rfl (mle_refl _) (fun hS_ => ?_)⟩
    dsimp only [packV]
    all_goals (first | rfl | (simp [len_ne hc1]))
  · -- F
    refine VC.skip ?_
    refine outN ?_
    refine VC.seq ?_
    refine VC.rs ?_
    refine VO.as ?_
    refine VO.kp [0] [(0, wm W)] ?_
    refine VO.k5 0 1 4 5 10 ?_
    refine VC.block ?_
    refine VC.loop (G := Nat) (fun k => [(5, Value.int .i64 (((k : Nat) : Int))), (0, Value.slice A0 (d0.length) (c0)), (1, Value.slice A1 (d1.length) (c1)), (10, Value.bool (decide (¬ ((d0.length : Nat) : Int) = ((d1.length : Nat) : Int))))]) (fun k => [(0, wm W)]) (fun k => (k ≤ d0.length) ∧ (d0.take k = d1.take k)) (fun k => d0.length - k) 0 (⟨by omega, by rfl⟩) ⟨⟨rfl, rfl, rfl, rfl, trivial⟩, fun _ h => h.sub [0]⟩ ?_
    rintro k ⟨hk, ht⟩
    refine VC.seq ?_
    refine VC.rs ?_
    refine VO.mv ?_
    refine VO.mv ?_
    refine VO.y rfl (.lenS rfl tsl34) ?_
    refine VO.y rfl (.lss rfl rfl) ?_
    refine VO.k5 0 1 5 10 14 ?_
    refine VC.cond rfl (fun hc2 => ?_) (fun hc2 => ?_)
    · -- FT
      refine VC.skip ?_
      refine outN ?_
      refine VC.seq ?_
      refine VC.block ?_
      refine VC.seq ?_
      refine VC.regD _ 8 [(0, true), (1, true), (2, true), (3, true), (4, true), (5, true), (6, true), (7, true)] follows (by kernel_rfl) (fun _ h => h.sub [0]) ?_
      refine VD.y rfl rfl (.inl rfl) (.mv rfl) ?_
      refine VD.y rfl rfl (.inl rfl) (.mv rfl) ?_
      obtain ⟨x3, hx3⟩ : ∃ z_, (d0)[k]? = some z_ := ⟨_, List.getElem?_eq_getElem bd⟩
      obtain ⟨gg3, oo3, ec3, ea3, hce3, hre3⟩ := h0.elem hx3
      cases ea3
      obtain ⟨rfl, q3_1, q3_2⟩ := open_Op (x0 := x3.1) (x1 := x3.2.1) (x2 := x3.2.2) hre3
      simp only [maxLen] at q3_1
      simp only [maxLen] at q3_2
      refine VD.y rfl rfl (.inl rfl) (.ixI k rfl rfl tsl34 rfl bd) ?_
      refine VD.y rfl rfl (.inl rfl) (.ldA 0 rfl tk64 rfl hce3) ?_
      refine VD.y rfl rfl (.inl rfl) (.mv rfl) ?_
      refine VD.y rfl rfl (.inl rfl) (.mv rfl) ?_
      obtain ⟨x4, hx4⟩ : ∃ z_, (d1)[k]? = some z_ := ⟨_, List.getElem?_eq_getElem bd⟩
      obtain ⟨gg4, oo4, ec4, ea4, hce4, hre4⟩ := h1.elem hx4
      cases ea4
      obtain ⟨rfl, q4_1, q4_2⟩ := open_Op (x0 := x4.1) (x1 := x4.2.1) (x2 := x4.2.2) hre4
      simp only [maxLen] at q4_1
      simp only [maxLen] at q4_2
      refine VD.y rfl rfl (.inl rfl) (.ixI k rfl rfl tsl34 rfl bd) ?_
      refine VD.y rfl rfl (.inl rfl) (.ldA 0 rfl tk64 rfl hce4) ?_
      refine VD.nil rfl ?_ rfl
      refine VO.y rfl (.stneq (p := x3.1 = x4.1 ∧ x3.2.1 = x4.2.1 ∧ x3.2.2 = x4.2.2) rfl rfl (teq64 x3.1 x3.2.1 x3.2.2) (teq64 x4.1 x4.2.1 x4.2.2) (by simp [ceq, ba_toList])) ?_
      refine VO.k6 0 1 5 10 14 25 ?_
      refine outN ?_
      refine VC.cond rfl (fun hc5 => ?_) (fun hc5 => ?_)
      · -- FTT
        refine VC.rs ?_
        refine VO.as ?_
        refine VO.kp [0] [(0, wm W)] ?_
        refine VO.k7 0 1 4 5 10 14 25 ?_
        refine VC.ret ?_
        refine outBR ?_
        refine outR ?_
        refine outR ?_
        refine outBR ?_
        refine outR ?_
        refine ⟨_, _, res_run (rs := [.tmp 4]) rfl (.tmp rfl .nil), fun W_ hI => out_of (l := []) hI [] rfl rfl (mle_refl _) (fun hS_ => ?_)⟩
        dsimp only [packV]
        all_goals (first | rfl | (simp [get_ne ‹d0[k]? = some _› ‹d1[k]? = some _› (op_ne ‹_›)]))
      · -- FTF
        refine VC.skip ?_
        refine outBN ?_
        refine outN ?_
        refine VC.reg ?_
        refine VO.mv ?_
        refine VO.y rfl (.add (c := ((k + 1 : Nat) : Int)) rfl rfl (by omega) ⟨bd, bd⟩) ?_
        refine VO.as ?_
        refine VO.kp [0] [(0, wm W)] ?_
        refine VO.k6 0 1 5 10 14 25 ?_
        exact outN ⟨k + 1, ⟨by omega, by exact take_next ht ‹d0[k]? = some _› ‹d1[k]? = some _› (op_eq (by simpa using ‹¬ ¬ _›))⟩, bd, ⟨⟨rfl, rfl, rfl, rfl, trivial⟩, fun _ h => Inv.sub h [0]⟩⟩
    · -- FF
      refine VC.exit ?_
      refine outE ?_
      refine outE ?_
      refine outBB ?_
      refine outN ?_
      refine VC.rs ?_
      refine VO.as ?_
      refine VO.k6 0 1 4 5 10 14 ?_
      refine VC.ret ?_
      refine ⟨_, _, res_run (rs := [.tmp 4]) rfl (.tmp rfl .nil), fun W_ hI => out_of (l := []) hI [] rfl rfl (mle_refl _) (fun hS_ => ?_)⟩
      dsimp only [packV]
      all_goals (first | rfl | (simp [take_all ht (by omega) (by omega)]))
theorem fin0_opCheck_ok {P : Prop} (h : P := by congr 1; first | exact (opCheck_bad (fun h => by have := h.1; have := h.2.1; have := h.2.2.1; omega)).symm | exact (opCheck_bad (fun h => by rcases h.2.2.2 with e | e <;> first | exact absurd e ‹¬ _ = _› | simp [e] at *)).symm | exact (opCheck_good ⟨by omega, by omega, by omega, by first | exact .inl ‹d0.1 = true› | exact .inr (by simpa using ‹¬ ¬ _›)⟩).symm) : P := h
theorem opCheck_ok (W : World) {v0 : List Value} {d0 : DOp} (h0 : Rd TOp (wm W) v0 d0) : CallR Tryz.prog 57 [.agg v0.toArray] W (mnil) (fun v m' => v = .int .i64 (opCheck d0)) := by
  obtain ⟨rfl, p0_1, p0_2⟩ := open_Op (x0 := d0.1) (x1 := d0.2.1) (x2 := d0.2.2) h0
  simp only [maxLen] at p0_1
  simp only [maxLen] at p0_2
  refine CallR.ofA (n := 29) Tryz.func57 rfl rfl rfl ?_
  refine VC.rs ?_
  refine VO.box (cs := [Value.bool d0.1, str (d0.2.1), str (d0.2.2)]) 102 rfl rfl rfl (fun g1 => ?_)
  refine VO.as ?_
  refine VO.k3 0 1 2 ?_
  refine VC.seq ?_
  refine VC.rs ?_
  refine VO.y rfl (.fa rfl tst64 rfl) ?_
  refine VO.y rfl (.ld1 102 rfl tk9 rfl (cellsAt_one rfl rfl)) ?_
  refine VO.y rfl (.lenT rfl Tryz.underlying9) ?_
  refine VO.y rfl (.lss rfl rfl) ?_
  refine VO.mv ?_
  refine VO.dec (t := 7) rfl (fun hc3 => ?_) (fun hc3 => ?_)
  · -- T
    refine VO.gN ?_
    refine VO.gN ?_
    refine VO.gN ?_
    refine VO.gN ?_
    refine VO.y rfl (.pT rfl rfl) ?_
    refine VO.mv ?_
    refine VO.gN ?_
    refine VO.gN ?_
    refine VO.gN ?_
    refine VO.gN ?_
    refine VO.y rfl (.pT rfl rfl) ?_
    refine VO.mv ?_
    refine VO.gN ?_
    refine VO.gN ?_
    refine VO.gN ?_
    refine VO.gN ?_
    refine VO.gn rfl (.inr ⟨_, rfl, rfl⟩) ?_
    refine VO.gn rfl (.inr ⟨_, rfl, rfl⟩) ?_
    refine VO.gn rfl (.inr ⟨_, rfl, rfl⟩) ?_
    refine VO.gN ?_
    refine VO.y rfl (.pT rfl rfl) ?_
    refine VO.k4 0 1 2 28 ?_
    refine VC.condT rfl ?_
    refine VC.rs ?_
    refine VO.as ?_
    refine VO.kp [102, 0] [(102, mone g1 (.cells [Value.bool d0.1, str (d0.2.1), str (d0.2.2)].toArray 64 (0, 0))), (0, wm W)] ?_
    refine VO.k4 0 1 2 28 ?_
    refine VC.ret ?_
    refine outR ?_
    refine ⟨_, _, res_run (rs := [.tmp 2]) rfl (.tmp rfl .nil), fun W_ hI => out_of (l := []) hI [] rfl rfl (mle_refl _) (fun hS_ => ?_)⟩
    dsimp only [packV]
    all_goals (first | rfl | (exact fin0_opCheck_ok))
  · -- F
    refine VO.gy rfl ⟨_, rfl, rfl⟩ (.fa rfl tst64 rfl) ?_
    refine VO.gy rfl ⟨_, rfl, rfl⟩ (.ld1 102 rfl tk9 rfl (cellsAt_one rfl rfl)) ?_
    refine VO.gy rfl ⟨_, rfl, rfl⟩ (.lenT rfl Tryz.underlying9) ?_
    refine VO.gy rfl ⟨_, rfl, rfl⟩ (.gtr rfl rfl) ?_
    refine VO.y rfl (.pF rfl rfl) ?_
    refine VO.mv ?_
    refine VO.dec (t := 13) rfl (fun hc4 => ?_) (fun hc4 => ?_)
    · -- FT
      refine VO.gN ?_
      refine VO.gN ?_
      refine VO.gN ?_
      refine VO.gN ?_
      refine VO.y rfl (.pT rfl rfl) ?_
      refine VO.mv ?_
      refine VO.gN ?_
      refine VO.gN ?_
      refine VO.gN ?_
      refine VO.gN ?_
      refine VO.gn rfl (.inr ⟨_, rfl, rfl⟩) ?_
      refine VO.gn rfl (.inr ⟨_, rfl, rfl⟩) ?_
      refine VO.gn rfl (.inr ⟨_, rfl, rfl⟩) ?_
      refine VO.gN ?_
      refine VO.y rfl (.pT rfl rfl) ?_
      refine VO.k4 0 1 2 28 ?_
      refine VC.condT rfl ?_
      refine VC.rs ?_
      refine VO.as ?_
      refine VO.kp [102, 0] [(102, mone g1 (.cells [Value.bool d0.1, str (d0.2.1), str (d0.2.2)].toArray 64 (0, 0))), (0, wm W)] ?_
      refine VO.k4 0 1 2 28 ?_
      refine VC.ret ?_
      refine outR ?_
      refine ⟨_, _, res_run (rs := [.tmp 2]) rfl (.tmp rfl .nil), fun W_ hI => out_of (l := []) hI [] rfl rfl (mle_refl _) (fun hS_ => ?_)⟩
      dsimp only [packV]
      all_goals (first | rfl | (exact fin0_opCheck_ok))
    · -- FF
      refine VO.gy rfl ⟨_, rfl, rfl⟩ (.fa rfl tst64 rfl) ?_
      refine VO.gy rfl ⟨_, rfl, rfl⟩ (.ld1 102 rfl tk9 rfl (cellsAt_one rfl rfl)) ?_
      refine VO.gy rfl ⟨_, rfl, rfl⟩ (.lenT rfl Tryz.underlying9) ?_
      refine VO.gy rfl ⟨_, rfl, rfl⟩ (.gtr rfl rfl) ?_
      refine VO.y rfl (.pF rfl rfl) ?_
      refine VO.mv ?_
      refine VO.dec (t := 19) rfl (fun hc5 => ?_) (fun hc5 => ?_)
      · -- FFT
        refine VO.gN ?_
        refine VO.gN ?_
        refine VO.gN ?_
        refine VO.gN ?_
        refine VO.gn rfl (.inr ⟨_, rfl, rfl⟩) ?_
        refine VO.gn rfl (.inr ⟨_, rfl, rfl⟩) ?_
        refine VO.gn rfl (.inr ⟨_, rfl, rfl⟩) ?_
        refine VO.gN ?_
        refine VO.y rfl (.pT rfl rfl) ?_
        refine VO.k4 0 1 2 28 ?_
        refine VC.condT rfl ?_
        refine VC.rs ?_
        refine VO.as ?_
        refine VO.kp [102, 0] [(102, mone g1 (.cells [Value.bool d0.1, str (d0.2.1), str (d0.2.2)].toArray 64 (0, 0))), (0, wm W)] ?_
        refine VO.k4 0 1 2 28 ?_
        refine VC.ret ?_
        refine outR ?_
        refine ⟨_, _, res_run (rs := [.tmp 2]) rfl (.tmp rfl .nil), fun W_ hI => out_of (l := []) hI [] rfl rfl (mle_refl _) (fun hS_ => ?_)⟩
        dsimp only [packV]
        all_goals (first | rfl | (exact fin0_opCheck_ok))
      · -- FFF
        refine VO.gy rfl ⟨_, rfl, rfl⟩ (.fa rfl tst64 rfl) ?_
        refine VO.gy rfl ⟨_, rfl, rfl⟩ (.ld1 102 rfl tk4 rfl (cellsAt_one rfl rfl)) ?_
        refine VO.gy rfl ⟨_, rfl, rfl⟩ (.not rfl) ?_
        refine VO.gy rfl ⟨_, rfl, rfl⟩ (.mv rfl) ?_
        refine VO.decBN (t := 23) rfl (fun hc6 => ?_) (fun hc6 => ?_)
        · -- FFFT
          refine VO.gy rfl ⟨_, rfl, rfl⟩ (.fa rfl tst64 rfl) ?_
          refine VO.gy rfl ⟨_, rfl, rfl⟩ (.ld1 102 rfl tk9 rfl (cellsAt_one rfl rfl)) ?_
          refine VO.gy rfl ⟨_, rfl, rfl⟩ (.sneq rfl rfl) ?_
          refine VO.gy rfl ⟨_, rfl, rfl⟩ (.pT rfl rfl) ?_
          refine VO.y rfl (.pF rfl rfl) ?_
          refine VO.k4 0 1 2 28 ?_
          refine VC.cond rfl (fun hc7 => ?_) (fun hc7 => ?_)
          · -- FFFTT
            refine VC.rs ?_
            refine VO.as ?_
            refine VO.kp [102, 0] [(102, mone g1 (.cells [Value.bool d0.1, str (d0.2.1), str (d0.2.2)].toArray 64 (0, 0))), (0, wm W)] ?_
            refine VO.k4 0 1 2 28 ?_
            refine VC.ret ?_
            refine outR ?_
            refine ⟨_, _, res_run (rs := [.tmp 2]) rfl (.tmp rfl .nil), fun W_ hI => out_of (l := []) hI [] rfl rfl (mle_refl _) (fun hS_ => ?_)⟩
            dsimp only [packV]
            all_goals (first | rfl | (exact fin0_opCheck_ok))
          · -- FFFTF
            refine VC.skip ?_
            refine outN ?_
            refine VC.rs ?_
            refine VO.as ?_
            refine VO.kp [102, 0] [(102, mone g1 (.cells [Value.bool d0.1, str (d0.2.1), str (d0.2.2)].toArray 64 (0, 0))), (0, wm W)] ?_
            refine VO.k4 0 1 2 28 ?_
            refine VC.ret ?_
            refine ⟨_, _, res_run (rs := [.tmp 2]) rfl (.tmp rfl .nil), fun W_ hI => out_of (l := []) hI [] rfl rfl (mle_refl _) (fun hS_ => ?_)⟩
            dsimp only [packV]
            all_goals (first | rfl | (exact fin0_opCheck_ok))
        · -- FFFF
          refine VO.gN ?_
          refine VO.gN ?_
          refine VO.gN ?_
          refine VO.gy rfl ⟨_, rfl, rfl⟩ (.pF rfl rfl) ?_
          refine VO.y rfl (.pF rfl rfl) ?_
          refine VO.k4 0 1 2 28 ?_
          refine VC.condF rfl ?_
          refine VC.skip ?_
          refine outN ?_
          refine VC.rs ?_
          refine VO.as ?_
          refine VO.kp [102, 0] [(102, mone g1 (.cells [Value.bool d0.1, str (d0.2.1), str (d0.2.2)].toArray 64 (0, 0))), (0, wm W)] ?_
          refine VO.k4 0 1 2 28 ?_
          refine VC.ret ?_
          refine ⟨_, _, res_run (rs := [.tmp 2]) rfl (.tmp rfl .nil), fun W_ hI => out_of (l := []) hI [] rfl rfl (mle_refl _) (fun hS_ => ?_)⟩
          dsimp only [packV]
          all_goals (first | rfl | (exact fin0_opCheck_ok))
theorem within_ok (W : World) (d0 : Int) (h0 : inK .i64 d0) : CallR Tryz.prog 92 [.int .i64 d0] W (mnil) (fun v m' => v = .bool (decide (1 ≤ d0 ∧ d0 ≤ 1048576))) := by
  have h0' := h0; simp only [inK] at h0'
  refine CallR.ofA (n := 9) Tryz.func92 rfl rfl rfl ?_
  refine VC.rs ?_
  refine VO.as ?_
  refine VO.k2 0 2 ?_
  refine VC.rs ?_
  refine VO.mv ?_
  refine VO.y rfl (.geq rfl rfl) ?_
  refine VO.mv ?_
  refine VO.dec (t := 5) rfl (fun hc1 => ?_) (fun hc1 => ?_)
  · -- T
    refine VO.gy rfl ⟨_, rfl, rfl⟩ (.mv rfl) ?_
    refine VO.gy rfl ⟨_, rfl, rfl⟩ (.leq rfl rfl) ?_
    refine VO.y rfl (.pT rfl rfl) ?_
    refine VO.as ?_
    refine VO.k2 0 2 ?_
    refine VC.ret ?_
    refine ⟨_, _, res_run (rs := [.tmp 2]) rfl (.tmp rfl .nil), fun W_ hI => out_of (l := []) hI [] rfl rfl (mle_refl _) (fun hS_ => ?_)⟩
    dsimp only [packV]
    all_goals (first | rfl | (simp [*]))
  · -- F
    refine VO.gN ?_
    refine VO.gN ?_
    refine VO.y rfl (.pF rfl rfl) ?_
    refine VO.as ?_
    refine VO.k2 0 2 ?_
    refine VC.ret ?_
    refine ⟨_, _, res_run (rs := [.tmp 2]) rfl (.tmp rfl .nil), fun W_ hI => out_of (l := []) hI [] rfl rfl (mle_refl _) (fun hS_ => ?_)⟩
    dsimp only [packV]
    all_goals (first | rfl | (simp [*]))
theorem vAppend_ok (W : World) {v0 : Value} {d0 : List UInt8} (h0 : Rd (.sl .byte) (wm W) [v0] d0) (d1 : Nat) (h1 : d1 < 18446744073709551616) (e0 : d0.length ≤ 140737488355000) : CallR Tryz.prog 125 [v0, .int .u64 (d1 : Int)] W (mnil) (fun v m' => ∃ (s0 : Value), v = s0 ∧ Ow (.sl .byte) m' [s0] (d0 ++ venc d1)) := by
  obtain ⟨A0, c0, rfl, l0, k0⟩ := h0.slice
  simp only [maxLen] at k0
  refine CallR.ofA (n := 23) Tryz.func125 rfl rfl rfl ?_
  refine VC.rs ?_
  refine VO.as ?_
  refine VO.k3 0 1 4 ?_
  refine VC.rs ?_
  refine VO.mv ?_
  refine VO.inv _ (fun _ h => h.nilc 102) ?_
  obtain ⟨mo1, cs1, hM1, hA1, hC1⟩ := (OwnL.nil .byte mnil mnil)
  obtain ⟨all1, hS1, hR1⟩ := Rd.srcI (P := Tryz.prog) (h0) Tryz.underlying97
  refine VO.app 102 rfl rfl rfl tsl97 tz5 rfl rfl hM1 hA1 (hS1 _ 0 rfl) hR1.nice bdm bd (by decide) (fun v1 m1 hN1 => ?_)
  have ho1 : OwnL .byte m1 mnil v1 (d0) := OwnL.more hC1 hN1 (All2c.mono hR1 fun _ _ h => Rd.flat rfl h _)
  obtain ⟨A1, c1, rfl, l1, k1⟩ := ho1.slice
  simp only [maxLen] at k1
  refine VO.as ?_
  refine VO.k4 0 1 4 5 ?_
  refine VC.seq ?_
  refine VC.block ?_
  refine VC.loop (G := Nat × (List UInt8) × (Option Addr) × Nat × Mem) (fun g => [(1, Value.int .u64 ((((g.1) : Nat) : Int))), (5, Value.slice (g.2.2.1) ((g.2.1).length) ((g.2.2.2.1))), (0, Value.slice A0 (d0.length) (c0)), (4, Value.slice none (0) (0))]) (fun g => [(102, (g.2.2.2.2)), (0, wm W)]) (fun g => ((g.1) < 18446744073709551616) ∧ ((g.2.1) ++ venc (g.1) = d0 ++ venc d1) ∧ (OwnL .byte (g.2.2.2.2) mnil (.slice (g.2.2.1) (g.2.1).length (g.2.2.2.1)) (g.2.1))) (fun g => (g.1)) (d1, d0, A1, c1, m1) (⟨by omega, by rfl, ho1⟩) ⟨⟨rfl, rfl, rfl, rfl, trivial⟩, fun _ h => h.sub [102, 0]⟩ ?_
  rintro ⟨x, out, out_A, out_c, out_m⟩ ⟨hx, ho, h_out⟩
  replace hx : x < 18446744073709551616 := hx
  replace ho : out ++ venc x = d0 ++ venc d1 := ho
  replace h_out : OwnL .byte out_m mnil (.slice out_A out.length out_c) out := h_out
  show VC _ _ _ _ _ [(1, Value.int .u64 (((x : Nat) : Int))), (5, Value.slice out_A (out.length) (out_c)), (0, Value.slice A0 (d0.length) (c0)), (4, Value.slice none (0) (0))] [(102, out_m), (0, wm W)]
  have l_out : out.length ≤ out_c := by obtain ⟨_, _, he, hl, _⟩ := h_out.slice; simp only [Value.slice.injEq] at he; omega
  have k_out : out_c ≤ 9223372036854775807 := by obtain ⟨_, _, he, _, hl⟩ := h_out.slice; simp only [Value.slice.injEq, maxLen] at he hl; omega
  have hlo := venc_room hx h1 ho
  refine VC.block ?_
  refine VC.seq ?_
  refine VC.rs ?_
  refine VO.mv ?_
  refine VO.y rfl (.lss rfl rfl) ?_
  refine VO.kp [102, 0] [(102, out_m), (0, wm W)] ?_
  refine VO.k5 0 1 4 5 9 ?_
  refine VC.cond rfl (fun hc3 => ?_) (fun hc3 => ?_)
  · -- T
    refine VC.exit ?_
    refine outE ?_
    refine outBE rfl ?_
    refine outE ?_
    refine outBB ?_
    refine outN ?_
    refine VC.rs ?_
    refine VO.mv ?_
    refine VO.mv ?_
    refine VO.y rfl (.cvI rfl ⟨_, Tryz.underlying163⟩ Tryz.underlying5 (u8_of_nat _)) ?_
    refine VO.bsl (cs := [Value.int .u8 (((x % 256 : Nat) : Int))]) 105 rfl rfl tsl97 tz5 rfl rfl (fun g4 => ?_)
    obtain ⟨mo6, cs6, hM6, hA6, hC6⟩ := h_out
    refine VO.app 102 rfl rfl rfl tsl97 tz5 rfl rfl hM6 hA6 (.row 105 _ _ _ 1 1 _ _ Tryz.underlying97 rfl (cellsAt_one rfl rfl)) (by simp [Value.oneCell']) bdm bd (by decide) (fun v6 m6 hN6 => ?_)
    have ho6 : OwnL .byte m6 mnil v6 (out ++ [UInt8.ofNat (x % 256)]) := OwnL.one hC6 hN6 (rd_byteN bd)
    obtain ⟨A6, c6, rfl, l6, k6⟩ := ho6.slice
    simp only [maxLen] at k6
    refine VO.as ?_
    refine VO.k5 0 1 4 5 9 ?_
    refine VC.ret ?_
    refine ⟨_, _, res_run (rs := [.tmp 4]) rfl (.tmp rfl .nil), fun W_ hI => out_of (l := [m6]) hI [102] rfl rfl (mle_refl _) (fun hS_ => ?_)⟩
    dsimp only [packV]
    have he0 : (d0 ++ venc d1 : Ty.Den (.sl .byte)) = out ++ [UInt8.ofNat (x % 256)] := by first | rfl | (rw [← ho, venc_last (by omega)])
    refine ⟨Value.slice A6 ((out ++ [UInt8.ofNat (x % 256)]).length) (c6), ?_, ?_⟩
    rotate_left
    · rw [he0]; exact (Ow.up (OwnL.ow ho6 rfl) (hS_.1 _ (.head _)))
    all_goals (first | rfl | (simp [*]; done))
  · -- F
    refine VC.skip ?_
    refine outN ?_
    refine VC.rs ?_
    refine VO.mv ?_
    refine VO.mv ?_
    refine VO.y rfl (.cvI rfl ⟨_, Tryz.underlying163⟩ Tryz.underlying5 (u8_of_nat _)) ?_
    refine VO.y rfl (.bit (.inr (.inl rfl)) rfl rfl (or128 _ (by omega))) ?_
    refine VO.bsl (cs := [Value.int .u8 ((((x % 256) % 128 + 128 : Nat) : Int))]) 108 rfl rfl tsl97 tz5 rfl rfl (fun g7 => ?_)
    obtain ⟨mo9, cs9, hM9, hA9, hC9⟩ := h_out
    refine VO.app 102 rfl rfl rfl tsl97 tz5 rfl rfl hM9 hA9 (.row 108 _ _ _ 1 1 _ _ Tryz.underlying97 rfl (cellsAt_one rfl rfl)) (by simp [Value.oneCell']) bdm bd (by decide) (fun v9 m9 hN9 => ?_)
    have ho9 : OwnL .byte m9 mnil v9 (out ++ [UInt8.ofNat ((x % 256) % 128 + 128)]) := OwnL.one hC9 hN9 (rd_byteN bd)
    obtain ⟨A9, c9, rfl, l9, k9⟩ := ho9.slice
    simp only [maxLen] at k9
    refine VO.as ?_
    refine VO.k5 0 1 4 5 9 ?_
    refine VC.reg ?_
    refine VO.mv ?_
    refine VO.y rfl (.shf (.inr rfl) rfl rfl (shr7 _)) ?_
    refine VO.as ?_
    refine VO.k5 0 1 4 5 9 ?_
    refine outBN ?_
    exact outN ⟨⟨x / 128, out ++ [UInt8.ofNat ((x % 256) % 128 + 128)], A9, c9, m9⟩, ⟨by omega, by rw [← ho]; exact (venc_step (by omega) _).symm, ho9⟩, bd, ⟨⟨rfl, rfl, rfl, rfl, trivial⟩, fun _ h => Inv.sub h [102, 0]⟩⟩
theorem Seps.back {e : Ty} {mr me : Mem} {v : Value} {xs : List e.Den} (hS : Seps (muns [mr, me]) [mr, me]) (h : mdj mr me → Ow (.sl e) (mun mr me) [v] xs) : Ow (.sl e) (muns [mr, me]) [v] xs :=
  (h (by simpa using hS.2)).up (mun_le (hS.1 _ (.head _)) (hS.1 _ (.tail _ (.head _))))
section
theorem Rd.relen {e : Ty} {m : Mem} {A : Option Addr} {l k c : Nat} {xs : List e.Den} (h : Rd (.sl e) m [.slice A l c] xs) (hk : k = xs.length) : Rd (.sl e) m [.slice A k c] xs := by
  obtain ⟨A', c', h1, h2⟩ := h
  simp only [List.cons.injEq, Value.slice.injEq, and_true] at h1
  obtain ⟨rfl, _, rfl⟩ := h1
  exact ⟨_, _, by rw [hk], h2⟩
theorem OwAll.map {α β : Type} {R : Mem → List Value → α → Prop} {S : Mem → List Value → β → Prop} (f : α → β) (hf : ∀ m c x, R m c x → S m c (f x)) : ∀ {xs : List α} {m : Mem} {cs : List Value}, OwAll R m cs xs → OwAll S m cs (xs.map f)
  | [], _, _, h => h
  | _ :: _, _, _, ⟨c1, c2, m1, m2, h1, h2, h3, h4, h5, h6⟩ => ⟨c1, c2, m1, m2, h1, h2, h3, h4, hf _ _ _ h5, h6.map f hf⟩
theorem VO.apart {P : Program} {n : Nat} {w0 : World} {σ : Env} {Ω : Ctx} {ops : Array Oper} {K : Env → Ctx → Prop} {r : List Oper} (ids : List Nat) {l : List Mem} (hg : cgets Ω ids = some l) (h : l.Pairwise mdj → VO P n w0 ops r σ Ω K) : VO P n w0 ops r σ Ω K :=
  fun Q hQ a W he hi => h (hi.gets hg).1 Q hQ a W he hi
theorem VD.apart {P : Program} {n : Nat} {w0 : World} {σ : Env} {Ω ΩS : Ctx} {ops : Array Oper} {K : Env → Ctx → Prop} {t : Nat} {ss : List (Nat × Bool)} (ids : List Nat) {l : List Mem} (hg : cgets Ω ids = some l) (h : l.Pairwise mdj → VD P n w0 ops ΩS t ss σ Ω K) : VD P n w0 ops ΩS t ss σ Ω K :=
  fun Q hn hQ listed a W he hi => h (hi.gets hg).1 Q hn hQ listed a W he hi
section
variable {P : Program} {n : Nat} {w0 : World} {σ : Env} {Ω : Ctx} {ops : Array Oper} {K : Env → Ctx → Prop}
theorem execOp_val {ρ : Operand → Value} {dst : Option Tmp} {x : Operand} {f : FuncId} {caps : Array Value} {xs : Array Operand} {ats : Array TypeId} {ty : TypeId} {pos : String} {after : Array Edge} {guard : Option (Nat × Bool)} (hx : ρ x = .func (.func f) #[] caps) :
    execOp ρ { dst, op := .call { callee := .value x, args := xs, argTypes := ats }, type := ty, pos, after, guard } = callFunc f (#[] ++ xs.map ρ ++ caps) := by
  show (do let d ← Deferred.ofValue (ρ x) (xs.map ρ); invoke d.target d.args) = _
  rw [hx]; rfl
theorem Yld.mkf {d : Nat} {f : FuncId} {xs : List Operand} {caps : List Value} {ty : TypeId} {pos : String} {af : Array Edge} {gd : Option (Nat × Bool)} (ha : evs σ xs = some caps) : Yld P n w0 σ Ω ⟨some d, .makeFunc (.func f) #[] xs.toArray, ty, pos, af, gd⟩ (.func (.func f) #[] caps.toArray) := fun a W he _ => by
  simp [execOp, Instr.makeFunc, he.evals ha]
theorem Stp.callV {x : Operand} {f : FuncId} {caps : List Value} {xs : List Operand} {ats : Array TypeId} {ty : TypeId} {pos : String} {af : Array Edge} {dst : Option Tmp} {gd : Option (Nat × Bool)} {vs : List Value} {Post : Value → Mem → Prop}
    (i : Nat) {m : Mem} (hx : ev σ x = some (.func (.func f) #[] caps.toArray)) (hf : fnOk P f = true) (ha : evs σ xs = some vs) (hm : cget Ω i = some m) (hc : ∀ W, Inv w0 Ω W → CallR P f (vs ++ caps) W m Post) :
    Stp P n w0 σ Ω ⟨dst, .call { callee := .value x, args := xs.toArray, argTypes := ats }, ty, pos, af, gd⟩ (fun v Ω' => ∃ m', Post v m' ∧ Ω' = cset Ω i m') := fun a W he hi K Q hK => by
  unfold Oper.wp
  rw [execOp_val (he.eval hx)]
  rw [run_call_of_ok hf]
  have : #[] ++ Array.map a.eval xs.toArray ++ caps.toArray = (vs ++ caps).toArray := by
    rw [← he.evals ha]; simp
  rw [this, Oper.upon_enter]
  refine Calls.mono (hc W hi) fun e W' ⟨v, m', h1, h2, h3⟩ => ?_
  subst h1
  exact hK v _ W' ⟨m', h2, rfl⟩ (hi.upd hm h3)
theorem Stp.callVN {x : Operand} {f : FuncId} {caps : List Value} {xs : List Operand} {ats : Array TypeId} {ty : TypeId} {pos : String} {af : Array Edge} {dst : Option Tmp} {gd : Option (Nat × Bool)} {vs : List Value} {Post : Value → Mem → Prop}
    (i : Nat) (hx : ev σ x = some (.func (.func f) #[] caps.toArray)) (hf : fnOk P f = true) (ha : evs σ xs = some vs) (hc : ∀ W, Inv w0 Ω W → CallR P f (vs ++ caps) W mnil Post) :
    Stp P n w0 σ Ω ⟨dst, .call { callee := .value x, args := xs.toArray, argTypes := ats }, ty, pos, af, gd⟩ (fun v Ω' => ∃ m', Post v m' ∧ Ω' = (i, m') :: Ω) := fun a W he hi K Q hK => by
  unfold Oper.wp
  rw [execOp_val (he.eval hx)]
  rw [run_call_of_ok hf]
  have : #[] ++ Array.map a.eval xs.toArray ++ caps.toArray = (vs ++ caps).toArray := by
    rw [← he.evals ha]; simp
  rw [this, Oper.upon_enter]
  refine Calls.mono (hc W hi) fun e W' ⟨v, m', h1, h2, h3⟩ => ?_
  subst h1
  exact hK v _ W' ⟨m', h2, rfl⟩ (hi.updN i h3)
theorem VO.callV {r : List Oper} {d : Nat} {x : Operand} {f : FuncId} {caps : List Value} {xs : List Operand} {ats : Array TypeId} {ty : TypeId} {pos : String} {af : Array Edge} {vs : List Value} {Post : Value → Mem → Prop}
    (i : Nat) {m : Mem} (hd : Nat.blt d n = true) (hx : ev σ x = some (.func (.func f) #[] caps.toArray)) (hf : fnOk P f = true) (ha : evs σ xs = some vs) (hm : cget Ω i = some m) (hc : ∀ W, Inv w0 Ω W → CallR P f (vs ++ caps) W m Post)
    (h : ∀ v m', Post v m' → VO P n w0 ops r ((d, v) :: σ) (cset Ω i m') K) :
    VO P n w0 ops (⟨some d, .call { callee := .value x, args := xs.toArray, argTypes := ats }, ty, pos, af, none⟩ :: r) σ Ω K :=
  VO.s hd (Stp.callV i hx hf ha hm hc) fun v _ ⟨m', hp, hΩ⟩ => hΩ ▸ h v m' hp
theorem VO.callVN {r : List Oper} {d : Nat} {x : Operand} {f : FuncId} {caps : List Value} {xs : List Operand} {ats : Array TypeId} {ty : TypeId} {pos : String} {af : Array Edge} {vs : List Value} {Post : Value → Mem → Prop}
    (i : Nat) (hd : Nat.blt d n = true) (hx : ev σ x = some (.func (.func f) #[] caps.toArray)) (hf : fnOk P f = true) (ha : evs σ xs = some vs) (hc : ∀ W, Inv w0 Ω W → CallR P f (vs ++ caps) W mnil Post)
    (h : ∀ v m', Post v m' → VO P n w0 ops r ((d, v) :: σ) ((i, m') :: Ω) K) :
    VO P n w0 ops (⟨some d, .call { callee := .value x, args := xs.toArray, argTypes := ats }, ty, pos, af, none⟩ :: r) σ Ω K :=
  VO.s hd (Stp.callVN i hx hf ha hc) fun v _ ⟨m', hp, hΩ⟩ => hΩ ▸ h v m' hp
end
theorem VD.gbsl {P : Program} {n : Nat} {w0 : World} {σ : Env} {Ω ΩS : Ctx} {ops : Array Oper} {t : Nat} {K : Env → Ctx → Prop} {ty : TypeId} {pos : String} {af : Array Edge} {i : Nat} {rr : List (Nat × Bool)} {dd : Nat} {t' e : TypeId} {s b len : Nat} {l : List (Nat × Operand)} {ps : List (Nat × Value)} {z cs : List Value} {jj : Nat} {b' : Bool} (j : Nat) (hd : Nat.blt dd n = true) (ho : ops[i]? = some ⟨some dd, .buildSlice t' len l.toArray, ty, pos, af, some (jj, b')⟩) (hg : gyes σ ops jj b')
    (hl : evp σ l = some ps) (ht : tsl P t' = some (e, s, b)) (hz : tz P e = some z)
    (hsmall : Nat.ble (len * s) 16777216 = true) (hb : bld (fun i => some (i * s, s)) ((List.range (len * s)).map fun j => z.toArray[j % z.toArray.size]!) ps = some cs) (hS : ∀ W, Inv w0 Ω W → Inv w0 ΩS W)
    (h : ∀ g, VD P n w0 ops ΩS t rr ((dd, .slice (some ⟨g, 0, none⟩) len len) :: σ) ((j, mone g (.cells cs.toArray e (0, 0))) :: Ω) K) : VD P n w0 ops ΩS t ((i, false) :: rr) σ Ω K :=
  VD.s (fun v => (dd, v) :: σ) ho (fun v _ he => he.put hd v) (.inr ⟨_, _, rfl, hg⟩) (Stp.bsl j hl ht hz hsmall hb) (fun _ _ ⟨_, _, hΩ⟩ W hW => hS W (by subst hΩ; exact hW.tl)) (fun _ _ ⟨g, hv, hΩ⟩ => hv ▸ hΩ ▸ h g)
abbrev Hd := Option Addr × Nat × Nat
def hv (h : Hd) : Value := .slice h.1 h.2.1 h.2.2
/-- two numbers and a list; two numbers and a list's header. -/
abbrev tC (e : Ty) : Ty := .pair (.int .i64) (.pair (.int .i64) (.sl e))
abbrev DH := Int × Int × Hd
/-- this one, but for where the ops are. -/
def Pc (e : Ty) (m : Mem) (h : DH) (x : (tC e).Den) : Prop := h.1 = x.1 ∧ h.2.1 = x.2.1 ∧ Rd (.sl e) m [hv h.2.2] x.2.2
inductive F2 {α β : Type} (R : α → β → Prop) : List α → List β → Prop
  | nil : F2 R [] []
  | cons {a : α} {b : β} {l : List α} {r : List β} (h : R a b) (t : F2 R l r) : F2 R (a :: l) (b :: r)
theorem F2.mono {α β : Type} {R S : α → β → Prop} {l : List α} {r : List β} (h : F2 R l r) (hs : ∀ a b, R a b → S a b) : F2 S l r := by
  induction h with
  | nil => exact .nil
  | cons h _ ih => exact .cons (hs _ _ h) ih
theorem F2.len {α β : Type} {R : α → β → Prop} {l : List α} {r : List β} (h : F2 R l r) : l.length = r.length := by
  induction h with
  | nil => rfl
  | cons _ _ ih => simp [ih]
theorem F2.get {α β : Type} {R : α → β → Prop} {l : List α} {r : List β} (h : F2 R l r) {i : Nat} {a : α} (ha : l[i]? = some a) : ∃ b, r[i]? = some b ∧ R a b := by
  induction h generalizing i with
  | nil => simp at ha
  | cons h _ ih =>
    cases i with
    | zero => simp at ha; subst ha; exact ⟨_, rfl, h⟩
    | succ i => simp at ha; simpa using ih ha
variable {e : Ty}
theorem Pc.mono {m m' : Mem} {h : DH} {x : (tC e).Den} (hp : Pc e m h x) (hm : mle m m') : Pc e m' h x := ⟨hp.1, hp.2.1, hp.2.2.mono hm⟩
theorem OwAll.len {α : Type} {R : Mem → List Value → α → Prop} {k : Nat} (hk : ∀ m c x, R m c x → c.length = k) : ∀ {xs : List α} {m : Mem} {cs : List Value}, OwAll R m cs xs → cs.length = xs.length * k
  | [], _, _, h => by rw [show _ = [] from h]; simp
  | _ :: r, _, _, ⟨c1, c2, m1, m2, h1, _, _, _, h5, h6⟩ => by
    rw [h1, List.length_append, hk _ _ _ h5, OwAll.len hk h6, List.length_cons, Nat.add_mul]; omega
end
section
variable {P : Program} {n : Nat} {w0 : World} {σ : Env} {Ω : Ctx} {R : Exit → Env → Ctx → Prop}
/-- Several ways meet ahead of y: y is walked once, from the state S g, C g for any g of which I holds. -/
theorem VC.seqJ {G : Type} {x y : Code} (S : G → Env) (C : G → Ctx) (I : G → Prop) (rest : ∀ g, I g → VC P n w0 y R (S g) (C g))
    (h : (∀ g σ' Ω', I g → To w0 (S g) (C g) σ' Ω' → VC P n w0 y R σ' Ω') → VC P n w0 x (thenR (fun σ' Ω' => VC P n w0 y R σ' Ω') R) σ Ω) : VC P n w0 (.seq x y) R σ Ω :=
  VC.seq (h fun g _ _ hi ht => VC.esub _ ht.env (VC.inv _ ht.inv (rest g hi)))
end
section
variable {P : Program} {n : Nat} {w0 : World} {σ : Env} {Ω ΩS : Ctx} {ops : Array Oper} {K : Env → Ctx → Prop} {R : Exit → Env → Ctx → Prop}
theorem VO.clsP {r : List Oper} (k : Nat) (ids : List Nat) {l : List Mem} (hg : cgets Ω ids = some l) {e : Ty} {v : Value} {x : Nat × e.Den} (hp : Seps (muns l) l → Ow (.ptr e) (muns l) [v] x) (h : ∀ M, Ow (.ptr e) M [v] x → VO P n w0 ops r σ ((k, M) :: cdels Ω ids) K) : VO P n w0 ops r σ Ω K :=
  VO.gather k ids hg fun hS => h _ (hp hS)
theorem VC.clsP {c : Code} (k : Nat) (ids : List Nat) {l : List Mem} (hg : cgets Ω ids = some l) {e : Ty} {v : Value} {x : Nat × e.Den} (hp : Seps (muns l) l → Ow (.ptr e) (muns l) [v] x) (h : ∀ M, Ow (.ptr e) M [v] x → VC P n w0 c R σ ((k, M) :: cdels Ω ids)) : VC P n w0 c R σ Ω :=
  VC.gather k ids hg fun hS => h _ (hp hS)
theorem VD.clsP {t : Nat} {ss : List (Nat × Bool)} (k : Nat) (ids : List Nat) {l : List Mem} (hg : cgets Ω ids = some l) {e : Ty} {v : Value} {x : Nat × e.Den} (hp : Seps (muns l) l → Ow (.ptr e) (muns l) [v] x) (h : ∀ M, Ow (.ptr e) M [v] x → VD P n w0 ops ΩS t ss σ ((k, M) :: cdels Ω ids) K) : VD P n w0 ops ΩS t ss σ Ω K :=
  VD.gather k ids hg fun hS => h _ (hp hS)
end
section
variable {P : Program} {n : Nat} {w0 : World} {σ : Env} {Ω : Ctx} {ops : Array Oper} {K : Env → Ctx → Prop}
theorem Stp.appO {e : Ty} {s x : Operand} {t xt et xe : TypeId} {b g c : Nat} {d : Option Nat} {gd : Option (Nat × Bool)} {ty : TypeId} {pos : String} {af : Array Edge} {v : Value} {xs : List e.Den} {y : e.Den} {yc z : List Value} (i j k : Nat) {m mj mk : Mem} (hsv : ev σ s = some v) (hxv : ev σ x = some (.slice (some ⟨g, 0, none⟩) 1 c)) (ht : tsl P t = some (et, e.sz, b)) (hz : tz P et = some z) (hzl : z.length = e.sz)
    (hm : cget Ω i = some m) (hj : cget (cdel Ω i) j = some mj) (hk : cget Ω k = some mk) (hown : Ow (.sl e) m [v] xs) (hy : Ow e mj yc y) (hxt : P.underlying xt = some (.slice xe)) (hc : cellsAt mk g 0 e.sz yc) (hml : xs.length + 1 ≤ maxLen) (hb : (xs.length + 1) * b ≤ 140737488355328) (hb0 : b ≠ 0) :
    Stp P n w0 σ Ω ⟨d, .call { callee := .builtin .append, args := [s, x].toArray, argTypes := [t, xt].toArray }, ty, pos, af, gd⟩ (fun v' Ω' => ∃ m', Ow (.sl e) m' [v'] (xs ++ [y]) ∧ Ω' = (i, m') :: cdel (cdel Ω i) j) :=
  fun a W he hi K' Q hK => by
    obtain ⟨m0, m1, rc, hS, hA, hL⟩ := hown.opn
    obtain ⟨q1, q2, q3, q4, _⟩ := hi.gets (ids := [i, j]) (l := [m, mj]) (by simp [cgets, hm, hj])
    have dmj : mdj m mj := by simpa using q1
    have d01 : mdj m0 m1 := by have := hS.2; simpa using this
    have l0 := hS.1 m0 (.head _)
    have l1 := hS.1 m1 (.tail _ (.head _))
    have d1j : mdj m1 mj := dmj.mono l1 (mle_refl _)
    have hnew : mdj m0 (mun m1 mj) := (mdj_un d01.symm (dmj.mono l0 (mle_refl _)).symm).symm
    have hΩ2 : Inv w0 ((i, m0) :: (j, mun m1 mj) :: cdel (cdel Ω i) j) W := by
      have hdel : Inv w0 (cdel (cdel Ω i) j) W := q4
      have f1 : ∀ p ∈ cdel (cdel Ω i) j, mdj m p.2 := fun p hp => q3 m (.head _) p hp
      have f2 : ∀ p ∈ cdel (cdel Ω i) j, mdj mj p.2 := fun p hp => q3 mj (.tail _ (.head _)) p hp
      refine ⟨hi.os, hi.tape, hi.output, hi.size, fun p hp => ?_, List.pairwise_cons.2 ⟨fun p hp => ?_, List.pairwise_cons.2 ⟨fun p hp => ?_, hdel.dj⟩⟩⟩
      · rcases List.mem_cons.1 hp with rfl | hp
        · exact l0.trans (hi.at hm)
        · rcases List.mem_cons.1 hp with rfl | hp
          · exact mun_le (l1.trans (hi.at hm)) (q2 mj (.tail _ (.head _)))
          · exact hdel.le p hp
      · rcases List.mem_cons.1 hp with rfl | hp
        · exact hnew
        · exact (f1 p hp).mono l0 (mle_refl _)
      · exact mdj_un ((f1 p hp).mono l1 (mle_refl _)) (f2 p hp)
    have hsrc : SrcW P W e.sz xt (.slice (some ⟨g, 0, none⟩) 1 c) 1 yc := by
      refine ⟨⟨_, hxt, by simp⟩, by rw [hy.len]; omega, fun W' hW => ?_, fun W' => by simp [Builtin.lenOf]⟩
      have hc2 : cellsAt (wm W') g 0 (1 * e.sz) yc := by
        rw [Nat.one_mul]
        refine hc.mono (fun q o ho => ?_)
        have := hi.at hk q o ho
        unfold wm at this ⊢
        rw [hW]; exact this
      exact firstCells_row hc2
    refine app_wp (i := i) (m := m0) (m0 := m0) he hΩ2 hsv hxv ht hz hzl (by simp [cget]) (mle_refl _) hA hsrc hy.nice hml hb hb0 fun v' m' W' hA' hi' => ?_
    have hc' : cset ((i, m0) :: (j, mun m1 mj) :: cdel (cdel Ω i) j) i m' = (i, m') :: (j, mun m1 mj) :: cdel (cdel Ω i) j := by simp [cset]
    rw [hc'] at hi'
    have hdj : mdj m' (mun m1 mj) := (List.pairwise_cons.1 hi'.dj).1 _ (.head _)
    have hall : OwAll (Ow e) (mun m1 mj) (rc ++ yc) (xs ++ [y]) := OwAll.app d1j (mle_un_left _ _) (mle_un_right d1j) hL (.one hy (mle_refl _))
    have how : Ow (.sl e) (mun m' (mun m1 mj)) [v'] (xs ++ [y]) := ⟨v', m', mun m1 mj, rc ++ yc, rfl, hdj, mle_un_left _ _, mle_un_right hdj, by simpa using hA', hall⟩
    refine hK v' ((i, mun m' (mun m1 mj)) :: cdel (cdel Ω i) j) W' ⟨_, how, rfl⟩ ?_
    refine ⟨hi'.os, hi'.tape, hi'.output, hi'.size, fun p hp => ?_, List.pairwise_cons.2 ⟨fun p hp => ?_, (List.pairwise_cons.1 (List.pairwise_cons.1 hi'.dj).2).2⟩⟩
    · rcases List.mem_cons.1 hp with rfl | hp
      · exact mun_le (hi'.le (i, m') (.head _)) (hi'.le (j, mun m1 mj) (.tail _ (.head _)))
      · exact hi'.le p (.tail _ (.tail _ hp))
    · exact mdj_un ((List.pairwise_cons.1 hi'.dj).1 p (.tail _ hp)) ((List.pairwise_cons.1 (List.pairwise_cons.1 hi'.dj).2).1 p hp)
theorem VD.appO {tt q : Nat} {ss : List (Nat × Bool)} {ΩS : Ctx} {ty : TypeId} {pos : String} {af : Array Edge} {e : Ty} {s x : Operand} {t xt et xe : TypeId} {b dd g c : Nat} {v : Value} {xs : List e.Den} {y : e.Den} {yc z : List Value} (i j k : Nat) {m mj mk : Mem} (hd : Nat.blt dd n = true) (ho : ops[q]? = some ⟨some dd, .call { callee := .builtin .append, args := [s, x].toArray, argTypes := [t, xt].toArray }, ty, pos, af, none⟩) (hsv : ev σ s = some v) (hxv : ev σ x = some (.slice (some ⟨g, 0, none⟩) 1 c)) (ht : tsl P t = some (et, e.sz, b)) (hz : tz P et = some z) (hzl : z.length = e.sz)
    (hm : cget Ω i = some m) (hj : cget (cdel Ω i) j = some mj) (hk : cget Ω k = some mk) (hown : Ow (.sl e) m [v] xs) (hy : Ow e mj yc y) (hxt : P.underlying xt = some (.slice xe)) (hc : cellsAt mk g 0 e.sz yc) (hml : xs.length + 1 ≤ maxLen) (hb : (xs.length + 1) * b ≤ 140737488355328) (hb0 : b ≠ 0) (hS : ∀ m' W, Inv w0 ((i, m') :: cdel (cdel Ω i) j) W → Inv w0 ΩS W)
    (h : ∀ v' m', Ow (.sl e) m' [v'] (xs ++ [y]) → VD P n w0 ops ΩS tt ss ((dd, v') :: σ) ((i, m') :: cdel (cdel Ω i) j) K) : VD P n w0 ops ΩS tt ((q, false) :: ss) σ Ω K :=
  VD.s (fun v => (dd, v) :: σ) ho (fun v _ he => he.put hd v) (.inl rfl) (Stp.appO i j k hsv hxv ht hz hzl hm hj hk hown hy hxt hc hml hb hb0) (fun _ _ ⟨m', _, hΩ⟩ W hW => hS m' W (by subst hΩ; exact hW)) (fun v _ ⟨m', hp, hΩ⟩ => hΩ ▸ h v m' hp)
end
abbrev MapD := List (List UInt8 × List UInt8 × Bool)
/-- what stands under a key -/
def mGet (l : MapD) (k : List UInt8) : Option (List UInt8 × Bool) := (l.find? fun x => decide (x.1 = k)).map (·.2)
/-- a key's entry is turned, or a new one put behind -/
def mPut : MapD → List UInt8 → List UInt8 × Bool → MapD
  | [], k, v => [(k, v)]
  | x :: l, k, v => if x.1 = k then (k, v) :: l else x :: mPut l k v
theorem find_now {k : List UInt8} : ∀ {es : List MapEntry} {xs : MapD} (i : Nat), es.map (fun e => (e.key, e.val)) = xs.map entV →
    (mGet xs k = none ∧ Instr.findNow .string (str k) es i = some none ∧ mPut xs k = fun v => xs ++ [(k, v)]) ∨
    (∃ j v, mGet xs k = some v ∧ j < es.length ∧ Instr.findNow .string (str k) es i = some (some (i + j, .agg [str v.1, .bool v.2].toArray)) ∧ (es[j]?.map (·.key)) = some (str k) ∧
      ∀ w, mPut xs k w = xs.set j (k, w))
  | [], [], i, _ => .inl ⟨rfl, rfl, rfl⟩
  | [], _ :: _, i, h => by simp at h
  | _ :: _, [], i, h => by simp at h
  | e :: es, x :: xs, i, h => by
    simp only [List.map_cons, List.cons.injEq] at h
    obtain ⟨h1, h2⟩ := h
    obtain ⟨hk, hv⟩ := Prod.mk.inj (show (e.key, e.val) = (str x.1, .agg [str x.2.1, .bool x.2.2].toArray) from h1)
    have hs : Instr.sameNow .string (str k) e.key = some (decide (k = x.1)) := by
      rw [hk]; show some (_ == _) = _; rw [ba_beq]
    by_cases he : x.1 = k
    · right
      refine ⟨0, x.2, ?_, by simp, ?_, ?_, fun w => ?_⟩
      · simp [mGet, he]
      · show (match Instr.sameNow .string (str k) e.key with | some true => _ | some false => _ | none => _) = _
        rw [hs, decide_eq_true he.symm]; dsimp only; rw [hv]; rfl
      · simp [hk, he]
      · rw [mPut, if_pos he]; rfl
    · have hf : Instr.findNow .string (str k) (e :: es) i = Instr.findNow .string (str k) es (i + 1) := by
        show (match Instr.sameNow .string (str k) e.key with | some true => _ | some false => _ | none => _) = _
        rw [hs, decide_eq_false (fun q => he q.symm)]
      have hg : mGet (x :: xs) k = mGet xs k := by simp [mGet, List.find?_cons, he]
      rcases find_now (k := k) (i + 1) h2 with ⟨a, b, c⟩ | ⟨j, v, a, b, c, d, f⟩
      · left
        refine ⟨hg.trans a, hf.trans b, ?_⟩
        funext v; rw [mPut, if_neg he, c]; rfl
      · right
        refine ⟨j + 1, v, hg.trans a, by simp; omega, by rw [hf, c]; simp only [Option.some.injEq, Prod.mk.injEq, and_true]; omega, by simpa using d, fun w => ?_⟩
        rw [mPut, if_neg he, f]; rfl
theorem str_inj' {a b : List UInt8} (h : str a = str b) : a = b := by
  have h2 : (⟨a.toArray⟩ : ByteArray) = ⟨b.toArray⟩ := by injection h
  have h3 : a.toArray = b.toArray := by injection h2
  simpa using congrArg Array.toList h3
theorem mapRd_keys {es : Array MapEntry} {xs : MapD} {ck : Nat} (h : mapRd es ck xs) : es.toList.map (·.key) = xs.map fun x => str x.1 := by
  have := congrArg (List.map Prod.fst) h.1
  simpa [List.map_map, entV, Function.comp_def] using this
theorem mapRd_push {es : Array MapEntry} {xs : MapD} {k : List UInt8} {v : List UInt8 × Bool} {ck : Nat} (h : mapRd es ck xs) (hn : mGet xs k = none) (hk : k.length ≤ maxLen) (hv : v.1.length ≤ maxLen) :
    mapRd (es.push { key := str k, val := .agg [str v.1, .bool v.2].toArray, born := ck }) (ck + 1) (xs ++ [(k, v)]) := by
  refine ⟨by simp only [Array.toList_push, List.map_append, h.1, List.map_cons, List.map_nil]; rfl, fun x hx => ?_, MapKept.stamped_push h.2.2 fun e he q => ?_⟩
  · rcases List.mem_append.1 hx with hx | hx
    · exact h.2.1 x hx
    · rw [List.mem_singleton.1 hx]; exact ⟨hk, hv⟩
  · have h2 : e.key ∈ es.toList.map (·.key) := List.mem_map_of_mem he
    rw [mapRd_keys h, q] at h2
    obtain ⟨x, hx, e2⟩ := List.mem_map.1 h2
    have e3 := str_inj' e2
    unfold mGet at hn
    rw [Option.map_eq_none_iff, List.find?_eq_none] at hn
    exact hn x hx (by simp [e3])
theorem mapRd_set {es : Array MapEntry} {xs : MapD} {k : List UInt8} {v : List UInt8 × Bool} {j ck : Nat} (h : mapRd es ck xs) (hj : (es[j]?.map (·.key)) = some (str k)) (hk : k.length ≤ maxLen) (hv : v.1.length ≤ maxLen) :
    mapRd (es.modify j fun e => { e with key := str k, val := .agg [str v.1, .bool v.2].toArray }) ck (xs.set j (k, v)) := by
  refine ⟨?_, fun x hx => ?_, MapKept.stamped_modify h.2.2 _ _ (fun _ _ => rfl) (fun e _ he => by rw [he] at hj; simp only [Option.map_some, Option.some.injEq] at hj; exact hj.symm)⟩
  · rw [Array.toList_modify]
    have hl := congrArg List.length h.1
    simp only [List.length_map] at hl
    refine List.ext_getElem? fun i => ?_
    have := congrArg (fun l => l[i]?) h.1
    simp only [List.getElem?_map] at this
    simp only [List.getElem?_map, List.getElem?_modify, List.getElem?_set]
    by_cases hij : j = i
    · subst hij
      simp only [if_true, ite_true]
      cases he : es.toList[j]? with
      | none =>
        have : ¬ j < xs.length := by have := List.getElem?_eq_none_iff.1 he; omega
        simp [this]
      | some e =>
        have : j < xs.length := by have := (List.getElem?_eq_some_iff.1 he).1; omega
        simp [this, entV]
    · simp only [if_neg hij]; simpa using this
  · rcases List.mem_or_eq_of_mem_set hx with hx | rfl
    · exact h.2.1 x hx
    · exact ⟨hk, hv⟩
section
variable {P : Program} {n : Nat} {w0 : World} {σ : Env} {Ω : Ctx} {ops : Array Oper} {K : Env → Ctx → Prop} {ty : TypeId} {pos : String} {af : Array Edge} {d : Option Tmp} {gd : Option (Nat × Bool)} {r : List Oper}
theorem Ow.map1 {m : Mem} {cs : List Value} {xs : MapD} (h : Ow .tmap m cs xs) : ∃ g, cs = [.map (some g)] := ⟨h.choose, h.choose_spec.choose_spec.choose_spec.1⟩
theorem Rd.map1 {m : Mem} {cs : List Value} {xs : MapD} (h : Rd .tmap m cs xs) : ∃ g, cs = [.map (some g)] := ⟨h.choose, h.choose_spec.choose_spec.choose_spec.1⟩
def zv (P : Program) (t : TypeId) : Option Value := (P.info? t).bind fun i => i.zero
theorem zv_run {P : Program} {t : TypeId} {v : Value} (h : zv P t = some v) : ∀ w, (zeroValue t).run P w = .ok v w := fun w => by
  unfold zv at h
  cases hi : P.info? t with
  | none => rw [hi] at h; cases h
  | some i => rw [hi] at h; simp only [Option.bind_some] at h; simp [zeroValue, typeInfo, program, Sem.run, hi, h]
theorem Ow.mapB {m : Mem} {cs : List Value} {xs : MapD} (h : Ow .tmap m cs xs) : ∀ x ∈ xs, x.1.length ≤ maxLen ∧ x.2.1.length ≤ maxLen := h.choose_spec.choose_spec.choose_spec.2.2.2.1
theorem mGet_len {xs : MapD} (h : ∀ x ∈ xs, x.1.length ≤ maxLen ∧ x.2.1.length ≤ maxLen) (k : List UInt8) : ((mGet xs k).getD ([], false)).1.length ≤ maxLen := by
  unfold mGet
  cases hf : xs.find? fun x => decide (x.1 = k) with
  | none => exact Nat.zero_le _
  | some x => exact (h x (List.mem_of_find?_eq_some hf)).2
theorem Stp.mkmap {t : TypeId} (i : Nat) : Stp P n w0 σ Ω ⟨d, .makeMap t none, ty, pos, af, gd⟩ (fun u Ω' => ∃ g, u = .map (some g) ∧ Ω' = (i, mone g (.map #[] 0)) :: Ω) := fun a W he hi K Q hK => by
  unfold Oper.wp
  have : (execOp a.eval ⟨d, .makeMap t none, ty, pos, af, gd⟩).run P W = .ok (.value (.map (some W.heap.size))) (W.alloc (.map #[] 0)) := by
    simp [execOp, Instr.makeMap]
  rw [this]
  exact hK _ _ _ ⟨_, rfl, rfl⟩ (hi.alloc i _)
theorem VO.mkmap {dd : Nat} {t : TypeId} (i : Nat) (hd : Nat.blt dd n = true) (h : ∀ g m, Ow .tmap m [.map (some g)] [] → VO P n w0 ops r ((dd, .map (some g)) :: σ) ((i, m) :: Ω) K) : VO P n w0 ops (⟨some dd, .makeMap t none, ty, pos, af, none⟩ :: r) σ Ω K :=
  VO.s hd (Stp.mkmap i) fun _ _ ⟨g, hv, hΩ⟩ => by rw [hv, hΩ]; exact h g _ ⟨g, #[], 0, rfl, mle_refl _, rfl, (fun x hx => by cases hx), MapKept.stamped_empty 0⟩
theorem run_equalIn_mnil (W : World) (k : Nat) {t e f : TypeId} (g : Option Nat) (ht : P.underlying t = some (.map e f)) : (Op.equalIn (k + 1) t (.map g) (.map none)).run P W = .ok (decide (g = none)) W := by
  unfold Op.equalIn
  rw [Sem.run_bind, run_underlying' ht]
  cases g <;> rfl
theorem Yld.mnil {x y : Operand} {t u e f : TypeId} {g : Option Nat} (hx : ev σ x = some (.map g)) (hy : ev σ y = some (.map none)) (ht : P.underlying t = some (.map e f)) :
    Yld P n w0 σ Ω ⟨d, .binOp .eql t x y u, ty, pos, af, gd⟩ (.bool (decide (g = none))) := fun a W he _ => by
  have h2 : (binOp .eql t (.map g) (.map none)).run P W = .ok (.bool (decide (g = none))) W := by
    have h3 : binOp .eql t (.map g) (.map none) = (do pure (.bool (← Op.equal t (.map g) (.map none)))) := by
      cases g <;> rfl
    rw [h3, Sem.run_bind]
    unfold Op.equal
    rw [show Op.maxDepth = 9999 + 1 from rfl, run_equalIn_mnil W 9999 g ht]
    rfl
  have h4 : (eqGuard .eql t x y (.map g) (.map none)).run P W = .ok () W := by
    unfold eqGuard; simp
  simp [execOp, he.eval hx, he.eval hy, h2, h4]
theorem run_ck (W : World) (b : Bool) {kt : TypeId} (k : List UInt8) (hkt : P.underlying kt = some .string) : (Instr.checkKey b 10000 kt (str k)).run P W = .ok () W := by
  rw [show (10000 : Nat) = 9999 + 1 from rfl]
  unfold Instr.checkKey
  rw [Sem.run_bind, run_underlying' hkt]; rfl
theorem run_fk (W : World) {kt : TypeId} (k : List UInt8) {es : List MapEntry} {q : Option (Nat × Value)} (hkt : P.underlying kt = some .string) (h : Instr.findNow .string (str k) es 0 = some q) : (Instr.findKey kt (str k) es).run P W = .ok q W := by
  unfold Instr.findKey
  rw [Sem.run_bind, run_underlying' hkt]
  show Sem.run P (match Instr.findNow .string (str k) es 0 with | some r => pure r | none => _) W = _
  rw [h]; rfl
theorem Stp.mupd {t kt et : TypeId} {x k y : Operand} {g : Nat} {ks : List UInt8} {v : List UInt8 × Bool} {xs : MapD} (i : Nat) {m : Mem} (hx : ev σ x = some (.map (some g))) (hk : ev σ k = some (str ks)) (hy : ev σ y = some (.agg [str v.1, .bool v.2].toArray))
    (ht : P.underlying t = some (.map kt et)) (hkt : P.underlying kt = some .string) (hm : cget Ω i = some m) (hown : Ow .tmap m [.map (some g)] xs) (hkl : ks.length ≤ maxLen) (hvl : v.1.length ≤ maxLen) :
    Stp P n w0 σ Ω ⟨d, .mapUpdate t x k y, ty, pos, af, gd⟩ (fun u Ω' => u = undef ∧ ∃ m', Ω' = cset Ω i m' ∧ Ow .tmap m' [.map (some g)] (mPut xs ks v)) := fun a W he hi K' Q hK => by
  obtain ⟨g', es, ck, e1, h2, h3⟩ := hown
  simp only [List.cons.injEq, Value.map.injEq, Option.some.injEq, and_true] at e1
  subst e1
  have hwm : W.heap[g]? = some (.map es ck) := hi.at hm g _ (h2 _ _ (mone_self _ _))
  obtain ⟨o, ho, hrd⟩ : ∃ o, (execOp a.eval ⟨d, .mapUpdate t x k y, ty, pos, af, gd⟩).run P W = .ok .skip { W with heap := W.heap.setIfInBounds g o } ∧ ∃ es' ck', o = .map es' ck' ∧ mapRd es' ck' (mPut xs ks v) := by
    rcases find_now (k := ks) 0 h3.1 with ⟨nn, b, c⟩ | ⟨j, w, _, b, c, dd, f⟩
    · refine ⟨.map (es.push { key := str ks, val := .agg [str v.1, .bool v.2].toArray, born := ck }) (ck + 1), ?_, _, _, rfl, by rw [c]; exact mapRd_push h3 nn hkl hvl⟩
      simp [execOp, Instr.mapUpdate, he.eval hx, he.eval hk, he.eval hy, run_underlying' ht, run_underlying' hkt, getObj, setObj, Sem.run, hwm, run_ck _ _ _ hkt, run_fk _ _ hkt b]
    · refine ⟨.map (es.modify j fun e => { e with key := str ks, val := .agg [str v.1, .bool v.2].toArray }) ck, ?_, _, _, rfl, by rw [f]; exact mapRd_set h3 (by simpa using dd) hkl hvl⟩
      have hb : Instr.keyThatStays (str ks) (str ks) = pure (str ks) := by
        unfold Instr.keyThatStays; rw [if_pos (by show ((⟨ks.toArray⟩ : ByteArray) == ⟨ks.toArray⟩) = true; rw [ba_beq]; simp)]
      try simp only [Array.getElem?_toList] at dd
      simp [execOp, Instr.mapUpdate, he.eval hx, he.eval hk, he.eval hy, run_underlying' ht, run_underlying' hkt, getObj, setObj, Sem.run, hwm, run_ck _ _ _ hkt, run_fk _ _ hkt c, dd, hb]
  obtain ⟨es', ck', rfl, hr⟩ := hrd
  unfold Oper.wp
  rw [ho]
  have hlt : g < W.heap.size := (Array.getElem?_eq_some_iff.1 hwm).1
  have hgg : ({ W with heap := W.heap.setIfInBounds g (.map es' ck') } : World).heap[g]? = some (.map es' ck') := by simp [Array.getElem?_setIfInBounds, hlt]
  have hfar : ∀ q, q ≠ g → ({ W with heap := W.heap.setIfInBounds g (.map es' ck') } : World).heap[q]? = W.heap[q]? := fun q hq => by simp [Array.getElem?_setIfInBounds, Ne.symm hq]
  have hmg : m g = some (.map es ck) := h2 _ _ (mone_self _ _)
  refine hK undef _ _ ⟨rfl, mset m g (.map es' ck'), rfl, g, es', ck', rfl, fun q o hq => ?_, hr⟩ (hi.set hm rfl rfl rfl (by simp) (fun q o h => ?_) (fun q o h => ?_) (fun q => ?_))
  · unfold mone at hq; unfold mset
    split at hq
    · rename_i hqg; rw [if_pos hqg]; exact hq
    · cases hq
  · unfold mout at h
    split at h
    · cases h
    · rename_i hn
      have hkg : q ≠ g := by rintro rfl; rw [hmg] at hn; cases hn
      unfold wm at h ⊢
      rw [hfar q hkg]; exact h
  · unfold mset at h
    split at h
    · rename_i hqg; subst hqg; unfold wm; rw [hgg]; exact h
    · rename_i hqg; unfold wm; rw [hfar q hqg]; exact hi.at hm q o h
  · by_cases hqg : q = g
    · subst hqg; right; left; rw [hmg]; simp
    · cases hmk : m q with
      | none => left; simp [mset, hqg, hmk]
      | some o => right; left; simp
theorem VO.mupd {t kt et : TypeId} {x k y : Operand} {g : Nat} {ks : List UInt8} {v : List UInt8 × Bool} {xs : MapD} (i : Nat) {m : Mem} (hx : ev σ x = some (.map (some g))) (hk : ev σ k = some (str ks)) (hy : ev σ y = some (.agg [str v.1, .bool v.2].toArray))
    (ht : P.underlying t = some (.map kt et)) (hkt : P.underlying kt = some .string) (hm : cget Ω i = some m) (hown : Ow .tmap m [.map (some g)] xs) (hkl : ks.length ≤ maxLen) (hvl : v.1.length ≤ maxLen)
    (h : ∀ m', Ow .tmap m' [.map (some g)] (mPut xs ks v) → VO P n w0 ops r σ (cset Ω i m') K) : VO P n w0 ops (⟨none, .mapUpdate t x k y, ty, pos, af, none⟩ :: r) σ Ω K :=
  VO.u (Stp.mupd i hx hk hy ht hkt hm hown hkl hvl) fun _ _ ⟨_, m', hΩ, ho⟩ => hΩ ▸ h m' ho
theorem Yld.mlook {t kt et : TypeId} {x k : Operand} {g : Nat} {ks : List UInt8} {xs : MapD} (i : Nat) {m : Mem} (hx : ev σ x = some (.map (some g))) (hk : ev σ k = some (str ks)) (ht : P.underlying t = some (.map kt et)) (hkt : P.underlying kt = some .string)
    (hz : ∀ w, (zeroValue et).run P w = .ok (.agg [str [], .bool false].toArray) w) (hm : cget Ω i = some m) (hown : Rd .tmap m [.map (some g)] xs) :
    Yld P n w0 σ Ω ⟨d, .lookup t x k true, ty, pos, af, gd⟩ (.tuple #[.agg [str ((mGet xs ks).getD ([], false)).1, .bool ((mGet xs ks).getD ([], false)).2].toArray, .bool (mGet xs ks).isSome]) := fun a W he hi => by
  obtain ⟨g', es, ck, e1, h2, h3⟩ := hown
  simp only [List.cons.injEq, Value.map.injEq, Option.some.injEq, and_true] at e1
  subst e1
  have hwm : W.heap[g]? = some (.map es ck) := hi.at hm g _ h2
  rcases find_now (k := ks) 0 h3.1 with ⟨q, b, c⟩ | ⟨j, w, q, b, c, dd, f⟩
  · rw [q]; simp [execOp, Instr.lookup, he.eval hx, he.eval hk, run_underlying' ht, run_underlying' hkt, getObj, Sem.run, hwm, run_ck _ _ _ hkt, run_fk _ _ hkt b, hz]
  · rw [q]; simp [execOp, Instr.lookup, he.eval hx, he.eval hk, run_underlying' ht, run_underlying' hkt, getObj, Sem.run, hwm, run_ck _ _ _ hkt, run_fk _ _ hkt c]
theorem Yld.mlook1 {t kt et : TypeId} {x k : Operand} {g : Nat} {ks : List UInt8} {xs : MapD} (i : Nat) {m : Mem} (hx : ev σ x = some (.map (some g))) (hk : ev σ k = some (str ks)) (ht : P.underlying t = some (.map kt et)) (hkt : P.underlying kt = some .string)
    (hz : ∀ w, (zeroValue et).run P w = .ok (.agg [str [], .bool false].toArray) w) (hm : cget Ω i = some m) (hown : Rd .tmap m [.map (some g)] xs) :
    Yld P n w0 σ Ω ⟨d, .lookup t x k false, ty, pos, af, gd⟩ (.agg [str ((mGet xs ks).getD ([], false)).1, .bool ((mGet xs ks).getD ([], false)).2].toArray) := fun a W he hi => by
  obtain ⟨g', es, ck, e1, h2, h3⟩ := hown
  simp only [List.cons.injEq, Value.map.injEq, Option.some.injEq, and_true] at e1
  subst e1
  have hwm : W.heap[g]? = some (.map es ck) := hi.at hm g _ h2
  rcases find_now (k := ks) 0 h3.1 with ⟨q, b, c⟩ | ⟨j, w, q, b, c, dd, f⟩
  · rw [q]; simp [execOp, Instr.lookup, he.eval hx, he.eval hk, run_underlying' ht, run_underlying' hkt, getObj, Sem.run, hwm, run_ck _ _ _ hkt, run_fk _ _ hkt b, hz]
  · rw [q]; simp [execOp, Instr.lookup, he.eval hx, he.eval hk, run_underlying' ht, run_underlying' hkt, getObj, Sem.run, hwm, run_ck _ _ _ hkt, run_fk _ _ hkt c]
theorem Yld.mlen {t kt et : TypeId} {x : Operand} {g : Nat} {xs : MapD} (i : Nat) {m : Mem} (hx : ev σ x = some (.map (some g))) (ht : P.underlying t = some (.map kt et)) (hm : cget Ω i = some m) (hown : Rd .tmap m [.map (some g)] xs) :
    Yld P n w0 σ Ω ⟨d, .call { callee := .builtin .len, args := [x].toArray, argTypes := [t].toArray }, ty, pos, af, gd⟩ (.int .i64 xs.length) := fun a W he hi => by
  obtain ⟨g', es, ck, e1, h2, h3⟩ := hown
  simp only [List.cons.injEq, Value.map.injEq, Option.some.injEq, and_true] at e1
  subst e1
  have hwm : W.heap[g]? = some (.map es ck) := hi.at hm g _ h2
  have hl : es.size = xs.length := by have := congrArg List.length h3.1; simpa using this
  simp [execOp, resolve, invoke, builtin, Builtin.len_, he.eval hx, run_underlying' ht, goInt, getObj, Sem.run, hwm, hl]
end
section
open Go.WideMaps (keyOf_string_mk)
open Go.RowKit Go.Maps Go.Sort Go.Shelf
/-- a reader that looks at nothing -/
def rAny (v : Value) : Option (DataW Unit × List MemPlace) := some (.nil, [])
theorem rd_any {P : Program} {k : TypeId} (hk : P.underlying k = some .string) {e : MapEntry} {s : List UInt8} (h : e.key = str s) (hs : s.length ≤ maxLen) : WideElems.rd P k rAny e = some (.string s, .nil) := by
  unfold WideElems.rd
  rw [h, keyOf_string_mk hk (show s.toArray.size ≤ maxLen by simpa using hs)]
  simp [rAny]
theorem keys_map {P : Program} {k : TypeId} (hk : P.underlying k = some .string) : ∀ {es : List MapEntry} {xs : MapD}, es.map (fun e => (e.key, e.val)) = xs.map entV → (∀ x ∈ xs, x.1.length ≤ maxLen ∧ x.2.1.length ≤ maxLen) →
    (es.map (WideElems.rg P k rAny)).map (fun p => strOf p.1) = xs.map (·.1) ∧ ∀ e ∈ es, ∃ y, WideElems.rd P k rAny e = some y
  | [], [], _, _ => ⟨rfl, fun e he => by cases he⟩
  | [], _ :: _, h, _ => by simp at h
  | _ :: _, [], h, _ => by simp at h
  | e :: es, x :: xs, h, hb => by
    simp only [List.map_cons, List.cons.injEq] at h
    obtain ⟨h1, h2⟩ := h
    have hr := rd_any hk (Prod.mk.inj (show (e.key, e.val) = (str x.1, _) from h1)).1 (hb x (List.mem_cons_self ..)).1
    obtain ⟨i1, i2⟩ := keys_map hk h2 fun y hy => hb y (List.mem_cons_of_mem _ hy)
    refine ⟨?_, fun y hy => ?_⟩
    · simp only [List.map_cons, List.map_map] at i1 ⊢
      rw [i1]
      have : WideElems.rg P k rAny e = (.string x.1, .nil) := by unfold WideElems.rg; rw [hr]; rfl
      rw [this]; rfl
    · rcases List.mem_cons.1 hy with rfl | hy
      · exact ⟨_, hr⟩
      · exact i2 y hy
theorem map_own {P : Program} {k : TypeId} {W : World} {b ck : Nat} {es : Array MapEntry} {xs : MapD} (hk : P.underlying k = some .string) (hb : W.heap[b]? = some (.map es ck)) (h : mapRd es ck xs) (hs : xs.length ≤ maxLen) :
    ∃ D : DataW Unit, W.ownsMap P k rAny b xs.length D ∧ (strKeys D).Perm (xs.map (·.1)) ∧ Maps.size D = xs.length := by
  obtain ⟨i1, i2⟩ := keys_map hk h.1 h.2.1
  have hl : es.size = xs.length := by have := congrArg List.length h.1; simpa using this
  refine ⟨_, ⟨es, ck, hb, ⟨by omega, h.2.2, i2⟩, by omega, rfl⟩, ?_, ?_⟩
  · have := (WideShapes.sorted_perm (es.toList.map (WideElems.rg P k rAny))).map fun p => strOf p.1
    rw [i1] at this; exact this
  · show (List.foldr DataW.insert [] _).length = _
    rw [(WideShapes.sorted_perm _).length_eq]; simpa using hl
/-- texts, sorted -/
def sortB (l : List (List UInt8)) : List (List UInt8) := l.mergeSort fun x y => decide (x ≤ y)
theorem owAll_str {m : Mem} : ∀ {l : List (List UInt8)}, (∀ x ∈ l, x.length ≤ maxLen) → OwAll (Ow .str) m (l.map str) l
  | [], _ => rfl
  | x :: l, h => ⟨[str x], l.map str, mnil, mnil, rfl, fun g => .inl rfl, fun _ _ h => (by cases h), fun _ _ h => (by cases h), ⟨rfl, h x (List.mem_cons_self ..)⟩, (owAll_str fun y hy => h y (List.mem_cons_of_mem _ hy))⟩
theorem sortedK_ok {P : Program} {fS fI : FuncId} {tk te tb : TypeId} (hk : P.underlying tk = some .string)
    (hS : ∀ (W : World) (g b nn : Nat) (D : DataW Unit), g < W.heap.size → W.cell? ⟨g, 0, none⟩ = some (.map (some b)) → W.ownsMap P tk rAny b nn D → Maps.size D ≤ maxLen → Maps.size D * 16 ≤ 140737488355328 →
      CallsIn Fence.wide 5 P fS #[.func (.func fI) #[] #[.pointer (some ⟨g, 0, none⟩)]] W fun e w' => ∃ (v : Value) (ss : List (List UInt8)), e = .returned v ∧ ss.Perm (strKeys D) ∧
        w'.ownsRow W.heap.size te 1 v ss.length ((ss.mergeSort (fun x y => decide (x ≤ y))).map encStr) ∧ (v = .slice none 0 0 ↔ ss = []) ∧ Below W.heap.size W w')
    (W : World) {g : Nat} {v0 : Value} {xs : MapD} (hbox : mle (mone g (.cells [v0].toArray tb (0, 0))) (wm W)) {m0 : Mem} (hm0 : mle m0 (wm W)) (hm : Rd .tmap m0 [v0] xs) (hl : xs.length ≤ 1000000) :
    CallR P fS [.func (.func fI) #[] [.pointer (some ⟨g, 0, none⟩)].toArray] W mnil (fun v m' => Ow (.sl .str) m' [v] (sortB (xs.map (·.1)))) := by
  obtain ⟨b, es, ck, e0, hb, hrd⟩ := hm
  obtain rfl : v0 = .map (some b) := by simpa using e0
  have hbW : W.heap[b]? = some (.map es ck) := hm0 _ _ hb
  obtain ⟨D, hown, hperm, hsz⟩ := map_own hk hbW hrd (by simp only [maxLen]; omega)
  have hgW : W.heap[g]? = some (.cells [Value.map (some b)].toArray tb (0, 0)) := hbox _ _ (mone_self _ _)
  have hcell : W.cell? ⟨g, 0, none⟩ = some (.map (some b)) := by simp [World.cell?, hgW]
  have hg : g < W.heap.size := (Array.getElem?_eq_some_iff.1 hgW).1
  refine (callsIn_wide.1 (hS W g b _ D hg hcell hown (by rw [hsz]; simp only [maxLen]; omega) (by rw [hsz]; omega))).mono ?_
  rintro e w' ⟨v, ss, rfl, hS', hrow, hnil, hbl⟩
  have hp : ss.Perm (xs.map (·.1)) := hS'.trans hperm
  have hsort : ss.mergeSort (fun x y => decide (x ≤ y)) = sortB (xs.map (·.1)) := mergeSort_of_perm hp
  rw [hsort] at hrow
  have hkeep : mle (wm W) (wm w') := fun k o ho => by
    have hk' : k < W.heap.size := (Array.getElem?_eq_some_iff.1 ho).1
    exact (hbl.block k hk').trans ho
  have hb2 : ∀ x ∈ sortB (xs.map (·.1)), x.length ≤ maxLen := fun x hx => by
    have hx2 := (List.mergeSort_perm _ _).mem_iff.1 hx
    obtain ⟨y, hy, rfl⟩ := List.mem_map.1 hx2
    exact (hrd.2.1 y hy).1
  have hlen : (sortB (xs.map (·.1))).length = ss.length := by unfold sortB; rw [List.length_mergeSort]; exact hp.length_eq.symm
  obtain ⟨hl1, hrow⟩ := hrow
  have henc : (sortB (xs.map (·.1))).map encStr = (sortB (xs.map (·.1))).map str := List.map_congr_left fun x _ => rfl
  rcases hrow with ⟨rfl, hz⟩ | ⟨gb, cap, cur, rfl, hbase, hgb, r1, r2, r3, r4⟩
  · have h0 : sortB (xs.map (·.1)) = [] := List.eq_nil_of_length_eq_zero (hlen.trans hz)
    refine ⟨_, mnil, rfl, ?_, ⟨hbl.os, hbl.tape, hbl.output, hbl.size, (by rw [mout_nil]; exact hkeep), fun _ _ h => (by cases h), fun _ => .inl rfl⟩⟩
    rw [h0]
    exact ⟨_, mnil, mnil, [], rfl, fun _ => .inl rfl, mle_refl _, mle_refl _, OwnA.nil none, rfl⟩
  · refine ⟨_, mone gb (.cells cur te (0, 0)), rfl, ?_, ⟨hbl.os, hbl.tape, hbl.output, hbl.size, (by rw [mout_nil]; exact hkeep), fun k o h => ?_, fun k => ?_⟩⟩
    · have ho := OwnA.row (sz := 1) gb 0 ss.length cap te cur.toList (by simp only [Array.length_toList]; omega) r1 r2
      rw [List.drop_zero, r4, henc] at ho
      refine ⟨_, _, mnil, _, rfl, fun _ => .inr rfl, mle_refl _, fun _ _ h => (by cases h), ?_, owAll_str hb2⟩
      rw [hlen]; exact ho
    · unfold mone at h
      split at h
      · rename_i hk; subst hk; cases h; exact hgb
      · cases h
    · by_cases hk : k = gb
      · right; right; rw [hk]; exact hbase
      · left; unfold mone; rw [if_neg hk]
end
/-- the machine, or a round of loop record l. -/
def fen (ρ : Option Nat) : Fence := { Fence.wide with round := ρ }
/-- the marks of the block that gathers rounds' deferred calls. -/
def dl : Option Nat → List Deferred
  | none => []
  | some D => [{ target := .collected D, args := #[] }]
def wd (a : Act) (D : List Deferred) : Act := { a with defers := a.defers ++ D }
theorem wd_eval (a : Act) (D : List Deferred) : (wd a D).eval = a.eval := by funext x; cases x <;> rfl
theorem wd_put (a : Act) (D : List Deferred) (dst : Option Tmp) (v : Value) : (wd a D).put dst v = wd (a.put dst v) D := by cases dst <;> rfl
theorem wd_tmps (a : Act) (D : List Deferred) : (wd a D).tmps = a.tmps := rfl
def noDefer (ops : Array Oper) : Bool := ops.all fun o => match o.op with
  | .defer _ => false
  | _ => true
theorem rows_in {P : Program} {ρ : Option Nat} {m : Nat} {row : String} {args : Array Value} {w : World} {R : Value → World → Prop} (h : Rows P row args w R) : RowsIn (fen ρ) m P row args w R := fun c cs _ =>
  let ⟨v, w', r, s⟩ := h c cs
  ⟨v, w', r, stepsIn_wide.2 s⟩
/-- Operations go in a round, and with marks, as anywhere. -/
theorem ops_in {P : Program} {ρ : Option Nat} {m : Nat} {ops : Array Oper} {Q Q' : Exit → Act → World → Prop} {D : List Deferred} (hd : noDefer ops = true) (hp : ∀ c a w, ¬ Q (.panic c) a w) (ho : ∀ a w, ¬ Q .outgrown a w)
    (hQ : ∀ a w, Q .normal a w → Q' .normal (wd a D) w) : ∀ (l : List Nat) (a : Act) (w : World), wpOps P ops Q l a w → wpOpsIn (fen ρ) m P ops Q' l (wd a D) w
  | [], a, w, h => hQ a w h
  | i :: rest, a, w, h => by
    have ih := ops_in (P := P) (ρ := ρ) (m := m) hd hp ho hQ rest
    simp only [wpOps] at h
    simp only [wpOpsIn]
    cases hi : ops[i]? with
    | none => rw [hi] at h; exact ih a w h
    | some o =>
      rw [hi] at h
      dsimp only at h ⊢
      rw [wd_tmps]
      by_cases hw : Region.wanted o (yielded ops a.tmps) = true
      · rw [if_pos hw] at h ⊢
        have h := h.resolve_right fun q => by obtain ⟨a', w', hq⟩ := q.2; exact ho _ _ hq
        have hnd : ∀ c, o.op ≠ .defer c := fun c e => by
          have hm := Array.mem_of_getElem? hi
          have := (Array.all_eq_true_iff_forall_mem.1 hd) o hm
          rw [e] at this; cases this
        refine ⟨fun _ _ => trivial, ?_⟩
        rw [Oper.semAt_eq _ _ _ hnd, wd_eval]
        unfold Oper.wp at h
        generalize (execOp a.eval o).run P w = r at h ⊢
        cases r with
        | ok n w' =>
          cases n with
          | value v => show wpOpsIn _ _ _ _ _ _ _ _; rw [wd_put]; exact ih _ _ h
          | skip => show wpOpsIn _ _ _ _ _ _ _ _; rw [wd_put]; exact ih _ _ h
          | enter f args =>
            refine ⟨fun q => (by cases q), ?_⟩
            have h' : CallsIn Fence.wide (m - 1) P f args w' _ := callsIn_wide.2 h
            refine CallsIn.mono (show CallsIn (fen ρ) (m - 1) P f args w' _ from h') ?_
            intro e w'' hr
            cases e with
            | returned v => show wpOpsIn _ _ _ _ _ _ _ _; rw [wd_put]; exact ih _ _ hr
            | panicked c => exact absurd hr (hp _ _ _)
            | outgrown => obtain ⟨a', w3, hq⟩ := hr; exact absurd hq (ho _ _)
          | row row args =>
            refine ⟨fun q => (by cases q), RowsIn.mono (rows_in h) fun v w'' hr => ?_⟩
            rw [wd_put]; exact ih _ _ hr
          | defer d =>
            show wpOpsIn _ _ _ _ _ _ _ _
            have e : ({ wd a D with defers := d :: (wd a D).defers } : Act) = wd { a with defers := d :: a.defers } D := rfl
            rw [e, wd_put]; exact ih _ _ h
          | _ => exact h.elim
        | halt e w' =>
          cases e with
          | panic v => exact absurd h (hp _ _ _)
          | _ => exact h.elim
      · rw [if_neg hw] at h ⊢
        refine ⟨fun _ _ => trivial, ?_⟩
        rw [wd_put]; exact ih _ _ h
section
variable (P : Program) (n : Nat) (w0 : World)
/-- Code, in a round or not (ρ), with a mark or none (d). -/
def VX (ρ : Option Nat) (c : Code) (R : Option Nat → Exit → Env → Ctx → Prop) (d : Option Nat) (σ : Env) (Ω : Ctx) : Prop :=
  ∀ Q : Exit → Act → World → Prop, (∀ d' e σ' Ω' a W, R d' e σ' Ω' → EnvOk n σ' a → Inv w0 Ω' W → Q e (wd a (dl d')) W) → ∀ a W, EnvOk n σ a → Inv w0 Ω W → c.wpIn (fen ρ) 0 P Q (wd a (dl d)) W
end
@[reducible] def thenX (k : Option Nat → Env → Ctx → Prop) (R : Option Nat → Exit → Env → Ctx → Prop) : Option Nat → Exit → Env → Ctx → Prop := fun d => thenR (k d) (R d)
@[reducible] def blkX (id : Nat) (R : Option Nat → Exit → Env → Ctx → Prop) : Option Nat → Exit → Env → Ctx → Prop := fun d => inBlk id (R d)
section
variable {P : Program} {n : Nat} {w0 : World} {σ : Env} {Ω : Ctx} {ρ d : Option Nat} {R : Option Nat → Exit → Env → Ctx → Prop}
theorem wpOps_list {ops : Array Oper} {Q : Exit → Act → World → Prop} : ∀ (l : List Oper) (k : Nat) (a : Act) (W : World), (∀ j o, l[j]? = some o → ops[k + j]? = some o) → wpList P ops Q l a W → wpOps P ops Q (List.range' k l.length) a W
  | [], _, _, _, _, h => h
  | o :: l, k, a, W, hl, h => by
    have h0 : ops[k]? = some o := hl 0 o rfl
    rw [List.length_cons, List.range'_succ]
    unfold wpOps
    rw [h0]
    unfold wpList at h
    have ih := fun a W => wpOps_list (Q := Q) l (k + 1) a W (fun j o' h' => by have := hl (j + 1) o' h'; rwa [show k + (j + 1) = k + 1 + j by omega] at this)
    dsimp only
    split
    · rename_i hw; rw [if_pos hw] at h; exact h.imp (Oper.wp_mono ih) id
    · rename_i hw; rw [if_neg hw] at h; exact ih _ _ h
/-- what VO says, without panics. -/
theorem VO.ops {ops : Array Oper} {K : Env → Ctx → Prop} {l : List Oper} (h : VO P n w0 ops l σ Ω K) {a : Act} {W : World} (he : EnvOk n σ a) (hi : Inv w0 Ω W) :
    wpList P ops (fun e a W => e = .normal ∧ ∃ σ' Ω', K σ' Ω' ∧ EnvOk n σ' a ∧ Inv w0 Ω' W) l a W :=
  h _ (fun σ' Ω' a W hk he hi => ⟨rfl, σ', Ω', hk, he, hi⟩) a W he hi
theorem VX.reg {id : Nat} {l : List Oper} (h : VO P n w0 l.toArray l σ Ω (R d .normal)) (hnd : noDefer l.toArray = true := by kernel_rfl) : VX P n w0 ρ (.region id l.toArray false) R d σ Ω :=
  fun Q hQ a W he hi => wpIn_region (by
    have h1 := wpOps_list l 0 a W (fun j o h' => by simpa using h') (h.ops he hi)
    rw [show List.range l.toArray.size = List.range' 0 l.length by rw [List.size_toArray, List.range_eq_range']]
    exact ops_in hnd (fun _ _ _ q => by cases q.1) (fun _ _ q => by cases q.1) (fun a w ⟨_, σ', Ω', hk, he, hi⟩ => hQ _ _ σ' Ω' a w hk he hi) _ a W h1)
theorem VX.seq {x y : Code} (h : VX P n w0 ρ x (thenX (fun d σ' Ω' => VX P n w0 ρ y R d σ' Ω') R) d σ Ω) : VX P n w0 ρ (.seq x y) R d σ Ω :=
  fun Q hQ a W he hi => wpIn_seq (h (Exit.then (y.wpIn (fen ρ) 0 P Q) Q) (fun d' e σ' Ω' a W hr he hi => by
    cases e with
    | normal => exact hr Q hQ a W he hi
    | exit id => exact hQ _ _ σ' Ω' a W hr he hi
    | goto l => exact hQ _ _ σ' Ω' a W hr he hi
    | ret => exact hQ _ _ σ' Ω' a W hr he hi
    | panic ch => exact hQ _ _ σ' Ω' a W hr he hi
    | outgrown => exact hQ _ _ σ' Ω' a W hr he hi) a W he hi)
theorem VX.rs {id : Nat} {l : List Oper} {y : Code} (h : VO P n w0 l.toArray l σ Ω (fun σ' Ω' => VX P n w0 ρ y R d σ' Ω')) (hnd : noDefer l.toArray = true := by kernel_rfl) : VX P n w0 ρ (.seq (.region id l.toArray false) y) R d σ Ω :=
  VX.seq (VX.reg h hnd)
theorem VX.skip (h : R d .normal σ Ω) : VX P n w0 ρ .skip R d σ Ω := fun _ hQ a W he hi => wpIn_skip (hQ _ _ σ Ω a W h he hi)
theorem VX.exit {id : Nat} (h : R d (.exit id) σ Ω) : VX P n w0 ρ (.exit id) R d σ Ω := fun _ hQ a W he hi => wpIn_exit (hQ _ _ σ Ω a W h he hi)
theorem VX.ret (h : R d .ret σ Ω) : VX P n w0 ρ .ret R d σ Ω := fun _ hQ a W he hi => wpIn_ret (hQ _ _ σ Ω a W h he hi)
theorem VX.block {id : Nat} {c : Code} (h : VX P n w0 ρ c (blkX id R) d σ Ω) : VX P n w0 ρ (.block id c) R d σ Ω :=
  fun Q hQ a W he hi => wpIn_block (h (Exit.inBlock id Q) (fun d' e σ' Ω' a W hr he hi => by
    cases e with
    | exit i =>
      show if i = id then Q .normal _ W else Q (.exit i) _ W
      change cond (Nat.beq i id) (R d' .normal) (R d' (.exit i)) σ' Ω' at hr
      cases hb : Nat.beq i id with
      | true =>
        rw [if_pos (Nat.eq_of_beq_eq_true hb)]
        rw [hb] at hr
        exact hQ _ _ σ' Ω' a W hr he hi
      | false =>
        rw [if_neg (Nat.ne_of_beq_eq_false hb)]
        rw [hb] at hr
        exact hQ _ _ σ' Ω' a W hr he hi
    | normal => exact hQ _ _ σ' Ω' a W hr he hi
    | goto l => exact hQ _ _ σ' Ω' a W hr he hi
    | ret => exact hQ _ _ σ' Ω' a W hr he hi
    | panic ch => exact hQ _ _ σ' Ω' a W hr he hi
    | outgrown => exact hQ _ _ σ' Ω' a W hr he hi) a W he hi)
theorem VX.condT {c : Operand} {x y : Code} (hc : ev σ c = some (.bool true)) (h : VX P n w0 ρ x R d σ Ω) : VX P n w0 ρ (.cond c x y) R d σ Ω :=
  fun Q hQ a W he hi => wpIn_cond_true (by rw [wd_eval]; exact he.eval hc) (h Q hQ a W he hi)
theorem VX.condF {c : Operand} {x y : Code} (hc : ev σ c = some (.bool false)) (h : VX P n w0 ρ y R d σ Ω) : VX P n w0 ρ (.cond c x y) R d σ Ω :=
  fun Q hQ a W he hi => wpIn_cond_false (by rw [wd_eval]; exact he.eval hc) (h Q hQ a W he hi)
theorem VX.condB {c : Operand} {x y : Code} {b : Bool} (hc : ev σ c = some (.bool b)) (h1 : b = true → VX P n w0 ρ x R d σ Ω) (h2 : b = false → VX P n w0 ρ y R d σ Ω) : VX P n w0 ρ (.cond c x y) R d σ Ω := by
  cases b
  · exact VX.condF hc (h2 rfl)
  · exact VX.condT hc (h1 rfl)
theorem VX.cond {c : Operand} {x y : Code} {p : Prop} [Decidable p] (hc : ev σ c = some (.bool (decide p))) (h1 : p → VX P n w0 ρ x R d σ Ω) (h2 : ¬ p → VX P n w0 ρ y R d σ Ω) : VX P n w0 ρ (.cond c x y) R d σ Ω :=
  VX.condB hc (fun h => h1 (of_decide_eq_true h)) (fun h => h2 (of_decide_eq_false h))
theorem VX.condBN {c : Operand} {x y : Code} {b : Bool} (hc : ev σ c = some (.bool (!b))) (h1 : b = false → VX P n w0 ρ x R d σ Ω) (h2 : b = true → VX P n w0 ρ y R d σ Ω) : VX P n w0 ρ (.cond c x y) R d σ Ω := by
  cases b
  · exact VX.condT hc (h1 rfl)
  · exact VX.condF hc (h2 rfl)
theorem VX.condKT {c : Operand} {x y : Code} {b : Bool} (hc : ev σ c = some (.bool b)) (hb : b = true) (h : VX P n w0 ρ x R d σ Ω) : VX P n w0 ρ (.cond c x y) R d σ Ω := VX.condT (by rw [hc, hb]) h
theorem VX.condKF {c : Operand} {x y : Code} {b : Bool} (hc : ev σ c = some (.bool b)) (hb : b = false) (h : VX P n w0 ρ y R d σ Ω) : VX P n w0 ρ (.cond c x y) R d σ Ω := VX.condF (by rw [hc, hb]) h
theorem VX.inv {c : Code} (Ω' : Ctx) (hs : ∀ W, Inv w0 Ω W → Inv w0 Ω' W) (h : VX P n w0 ρ c R d σ Ω') : VX P n w0 ρ c R d σ Ω :=
  fun Q hQ a W he hi => h Q hQ a W he (hs W hi)
theorem VX.esub {c : Code} (σ' : Env) (hs : Go.Proofs.YtonbpfncmlijnaaGreat.esub σ' σ) (h : VX P n w0 ρ c R d σ' Ω) : VX P n w0 ρ c R d σ Ω :=
  fun Q hQ a W he hi => h Q hQ a W (he.sub hs) hi
theorem VX.gather {c : Code} (k : Nat) (ids : List Nat) {l : List Mem} (hg : cgets Ω ids = some l) (h : Seps (muns l) l → VX P n w0 ρ c R d σ ((k, muns l) :: cdels Ω ids)) : VX P n w0 ρ c R d σ Ω :=
  fun Q hQ a W he hi => h (hi.gather k hg).2 Q hQ a W he (hi.gather k hg).1
theorem VX.parts {c : Code} (i : Nat) (ids : List Nat) {m : Mem} {l : List Mem} (hm : cget Ω i = some m) (hl : Seps m l) (h : VX P n w0 ρ c R d σ (ids.zip l ++ cdel Ω i)) : VX P n w0 ρ c R d σ Ω :=
  VX.inv _ (fun W hW => hW.parts hm hl ids) h
theorem VX.clsP {c : Code} (k : Nat) (ids : List Nat) {l : List Mem} (hg : cgets Ω ids = some l) {e : Ty} {v : Value} {x : Nat × e.Den} (hp : Seps (muns l) l → Ow (.ptr e) (muns l) [v] x) (h : ∀ M, Ow (.ptr e) M [v] x → VX P n w0 ρ c R d σ ((k, M) :: cdels Ω ids)) : VX P n w0 ρ c R d σ Ω :=
  VX.gather k ids hg fun hS => h _ (hp hS)
theorem VX.loop {G : Type} {c : Code} (S : G → Env) (C : G → Ctx) (I : G → Prop) (μ : G → Nat) (g0 : G) (h0 : I g0) (h1 : To w0 (S g0) (C g0) σ Ω)
    (round : ∀ g, I g → VX P n w0 ρ c (thenX (fun d' σ' Ω' => d' = d ∧ ∃ g', I g' ∧ μ g' < μ g ∧ To w0 (S g') (C g') σ' Ω') R) d (S g) (C g)) : VX P n w0 ρ (.loop c) R d σ Ω :=
  fun Q hQ a W he hi => wpIn_loop (fun a W => ∃ k, ∃ g b, I g ∧ μ g = k ∧ EnvOk n (S g) b ∧ Inv w0 (C g) W ∧ a = wd b (dl d)) (fun a W => leastOf (fun k => ∃ g b, I g ∧ μ g = k ∧ EnvOk n (S g) b ∧ Inv w0 (C g) W ∧ a = wd b (dl d)))
    ⟨μ g0, g0, a, h0, rfl, he.sub h1.env, h1.inv W hi, rfl⟩ (by
    intro a W hI
    obtain ⟨hsp, hmin⟩ := leastOf_spec hI
    obtain ⟨g, b, hg, hm, he, hi, rfl⟩ := hsp
    refine round g hg _ (fun d' e σ' Ω' a' W' hr he hi => ?_) b W he hi
    cases e with
    | normal =>
      obtain ⟨rfl, g', hI', hlt, ht⟩ := hr
      have h2 : ∃ k, ∃ g b, I g ∧ μ g = k ∧ EnvOk n (S g) b ∧ Inv w0 (C g) W' ∧ wd a' (dl d') = wd b (dl d') := ⟨μ g', g', a', hI', rfl, he.sub ht.env, ht.inv W' hi, rfl⟩
      exact ⟨h2, Nat.lt_of_le_of_lt ((leastOf_spec h2).2 _ ⟨g', a', hI', rfl, he.sub ht.env, ht.inv W' hi, rfl⟩) (by omega)⟩
    | exit id => exact hQ _ _ σ' Ω' a' W' hr he hi
    | goto l => exact hQ _ _ σ' Ω' a' W' hr he hi
    | ret => exact hQ _ _ σ' Ω' a' W' hr he hi
    | panic ch => exact hQ _ _ σ' Ω' a' W' hr he hi
    | outgrown => exact hQ _ _ σ' Ω' a' W' hr he hi)
end
section
variable {P : Program} {n : Nat} {w0 : World} {σ : Env} {Ω : Ctx} {ρ d : Option Nat} {R : Option Nat → Exit → Env → Ctx → Prop}
theorem VX.regD {id : Nat} {l : List Oper} (ΩS : Ctx) (t : Nat) (sched : List (Nat × Bool)) (hm : P.follows .mixedOrders = true) (hs : okSched l.toArray t sched = true) (hΩ : ∀ W, Inv w0 Ω W → Inv w0 ΩS W)
    (h : VD P n w0 l.toArray ΩS t sched σ Ω (R d .normal)) (hnd : noDefer l.toArray = true := by kernel_rfl) : VX P n w0 ρ (.region id l.toArray true) R d σ Ω :=
  fun Q hQ a W he hi => by
    unfold okSched at hs
    simp only [Bool.and_eq_true, Bool.or_eq_true] at hs
    obtain ⟨⟨⟨h0, h1⟩, h2⟩, h3⟩ := hs
    have h4 : t < l.toArray.size → Region.sinkB .any l.toArray t = true ∧ Region.chainB .any l.toArray t = true := fun hlt => by
      rcases h2 with h2 | h2
      · have := Nat.le_of_ble_eq_true h2; omega
      · exact h2
    let Q' : Exit → Act → World → Prop := fun e a w => e = .normal ∧ ∃ σ' Ω', R d .normal σ' Ω' ∧ EnvOk n σ' a ∧ Inv w0 Ω' w
    have := h Q' (fun _ _ _ hq => by cases hq.1) (fun σ' Ω' a W hk he hi => ⟨rfl, σ', Ω', hk, he, hi⟩) (Array.replicate l.toArray.size false) a W.drew he hi.drew (hΩ W hi).drew.cur h3 (HeadInv.start _ _) h1 h4
    rw [Nat.eq_of_beq_eq_true h0] at this
    have hA := wpAny_of_T (S := fun L w => Inv w0 (curS l.toArray ΩS L) w) (t := t) _ _ _ _ this
    refine wpIn_region_draw fun t' => ops_in hnd (Q := Q') (fun _ _ _ q => by cases q.1) (fun _ _ q => by cases q.1) (fun a w ⟨_, σ', Ω', hk, he, hi⟩ => hQ _ _ σ' Ω' a w hk he hi) _ a _ ?_
    simp only [Region.schedule, hm, Bool.true_or, if_true]
    exact wpAny_sound _ t' _ a _ hA
def retX (P : Program) (n : Nat) (w0 : World) (fn : Func) (m : Mem) (Post : Value → Mem → Prop) : Option Nat → Exit → Env → Ctx → Prop
  | none => retR P n w0 fn m Post
  | some D => fun e σ Ω => ∃ j, cget Ω j = some (mone D (.deferred (some []))) ∧ retR P n w0 fn m Post e σ (cdel Ω j)
theorem put_le {m : Mem} {W : World} {L : Nat} {o : Obj} (h : mle m (wm W)) (hd : m L = none) : mle m (wm (W.putObj L o)) := fun g x e => by
  have hne : g ≠ L := fun q => by subst q; rw [hd] at e; cases e
  show (W.putObj L o).heap[g]? = some x
  rw [World.putObj_heap_other hne]; exact h g x e
theorem put_one {W : World} {L : Nat} {o o' : Obj} (h : mle (mone L o') (wm W)) : mle (mone L o) (wm (W.putObj L o)) :=
  mone_le (World.putObj_heap_same (Array.getElem?_eq_some_iff.1 (h L o' (mone_self _ _))).1)
theorem mdj_mone {L : Nat} {o : Obj} {m : Mem} (h : mdj (mone L o) m) : m L = none := (h L).resolve_left (by simp [mone_self])
theorem mdj_swap {L : Nat} {o o' : Obj} {m : Mem} (h : mdj (mone L o) m) : mdj (mone L o') m := fun g => by
  by_cases e : g = L
  · subst e; exact .inr (mdj_mone h)
  · exact .inl (mone_ne _ e)
theorem CallR.ofX {f : FuncId} {fn : Func} {c : Code} {args : List Value} {W : World} {m : Mem} {Post : Value → Mem → Prop} (hf : P.funcs[f]? = some fn) (hb : fn.body = some c) (hn : fn.ntmps = n)
    (hsz : Nat.ble args.length n = true) (hm : mle m (wm W)) (h : VX P n W none c (retX P n W fn m Post) none (zipE 0 args) [(0, mout (wm W) m), (1, m)]) : CallR P f args W m Post := by
  have hlen : args.length ≤ n := by simpa using hsz
  refine callsIn_wide.1 (callsIn_of_wp_marks (F := fen none) (n := 0) hf hb trivial ?_)
  have key : ∀ (v : Value) (m' : Mem) (W' : World), W'.os = W.os → W'.tape = W.tape → W'.output = W.output → W.heap.size ≤ W'.heap.size → Post v m' → mle (mout (wm W) m) (wm W') → mle m' (wm W') → mdj m' (mout (wm W) m) → ∃ v' m', (Ending.returned v = .returned v') ∧ Post v' m' ∧ Upd W m W' m' :=
    fun v m' W' o1 o2 o3 o4 h2 k1 k2 k3 => ⟨v, m', rfl, h2, o1, o2, o3, o4, k1, k2, fun g => by
      rcases k3 g with h | h
      · exact .inl h
      · refine .inr ?_
        unfold mout wm at h
        split at h
        · rename_i o ho; exact .inl (by rw [ho]; simp)
        · exact .inr (Array.getElem?_eq_none_iff.1 h)⟩
  have := h (bodyPostM (fen none) 0 P fn fun e W' => ∃ v m', e = .returned v ∧ Post v m' ∧ Upd W m W' m') (fun d' e σ' Ω' a W' hr he hi => ?_) { tmps := args.toArray ++ Array.replicate (fn.ntmps - args.toArray.size) undef, defers := [] } W ⟨?_, rfl, fun t v hv => ?_⟩ ⟨rfl, rfl, rfl, Nat.le_refl _, ?_, ?_⟩
  · exact this
  · have hre : e = .ret ∨ e = .normal := by
      cases d' with
      | none => cases e <;> first | exact .inl rfl | exact .inr rfl | exact hr.elim
      | some D => obtain ⟨_, _, hr⟩ := hr; cases e <;> first | exact .inl rfl | exact .inr rfl | exact hr.elim
    have goal : LeavesInM (fen none) 0 P fn (wd a (dl d')).tmps (fun e W' => ∃ v m', e = .returned v ∧ Post v m' ∧ Upd W m W' m') (wd a (dl d')).defers .returning W' := by
      cases d' with
      | none =>
        have hd : (wd a (dl none)).defers = [] := by show a.defers ++ [] = []; rw [he.defers]; rfl
        rw [hd]
        have hr' : retR P n W fn m Post .ret σ' Ω' := by rcases hre with rfl | rfl <;> exact hr
        obtain ⟨v, m', h1, h3⟩ := hr'
        obtain ⟨h2, k1, k2, k3⟩ := h3 W' hi
        exact ⟨v, h1 a W' he hi, key v m' W' hi.os hi.tape hi.output hi.size h2 k1 k2 k3⟩
      | some D =>
        have hd : (wd a (dl (some D))).defers = [{ target := .collected D, args := #[] }] := by show a.defers ++ _ = _; rw [he.defers]; rfl
        rw [hd]
        obtain ⟨j, hj, hr⟩ := hr
        have hr' : retR P n W fn m Post .ret σ' (cdel Ω' j) := by rcases hre with rfl | rfl <;> exact hr
        have hD : W'.heap[D]? = some (.deferred (some [])) := hi.at hj D _ (mone_self _ _)
        have hi2 : Inv W (cdel Ω' j) (W'.putObj D (.deferred none)) := by
          obtain ⟨g1, g2⟩ := cdel_dj hj hi.dj
          exact ⟨hi.os, hi.tape, hi.output, by rw [World.putObj_size]; exact hi.size, fun p hp => put_le (hi.le p (cdel_mem hp)) (mdj_mone (g1 p hp)), g2⟩
        obtain ⟨v, m', h1, h3⟩ := hr'
        obtain ⟨h2, k1, k2, k3⟩ := h3 _ hi2
        exact ⟨by simp, .inl ⟨D, _, rfl, run_takeDeferred hD, v, h1 a _ he hi2, key v m' _ hi2.os hi2.tape hi2.output hi2.size h2 k1 k2 k3⟩⟩
    rcases hre with rfl | rfl <;> exact goal
  · simp [hn]; omega
  · obtain ⟨_, h2⟩ := zipE_get hv
    have hlt : t < args.length := by
      have := (List.getElem?_eq_some_iff.1 h2).1; omega
    have h3 : (args.toArray ++ Array.replicate (fn.ntmps - args.toArray.size) undef)[t]? = some v := by
      rw [Array.getElem?_append_left (by simpa using hlt)]; simpa using h2
    simp only [Array.getD_eq_getD_getElem?, h3, Option.getD_some]
  · intro p hp
    rcases List.mem_cons.1 hp with rfl | hp
    · exact mout_le _ _
    · rcases List.mem_cons.1 hp with rfl | hp
      · exact hm
      · cases hp
  · refine List.pairwise_cons.2 ⟨fun p hp => ?_, List.pairwise_cons.2 ⟨fun p hp => ?_, List.Pairwise.nil⟩⟩
    · rcases List.mem_cons.1 hp with rfl | hp
      · exact mdj_out _ _
      · cases hp
    · cases hp
end
def YldR (P : Program) (l : Nat) (args : List Value) (W : World) (m : Mem) (Post : Value → Mem → Prop) : Prop :=
  YieldAt Fence.wide 0 P l args.toArray W fun e W' => ∃ v m', e = .returned v ∧ Post v m' ∧ Upd W m W' m'
section
variable (P : Program) (n : Nat) (w0 : World)
/-- Operations of which one may call yield (outside rounds, without marks). -/
def VL (ops : Array Oper) (l : List Nat) (σ : Env) (Ω : Ctx) (K : Env → Ctx → Prop) : Prop :=
  ∀ Q : Exit → Act → World → Prop, (∀ σ' Ω' a W, K σ' Ω' → EnvOk n σ' a → Inv w0 Ω' W → Q .normal a W) → ∀ a W, EnvOk n σ a → Inv w0 Ω W → wpOpsIn (fen none) 0 P ops Q l a W
end
section
variable {P : Program} {n : Nat} {w0 : World} {σ : Env} {Ω : Ctx} {ops : Array Oper} {K : Env → Ctx → Prop} {R : Option Nat → Exit → Env → Ctx → Prop}
theorem wd_nil (a : Act) : wd a [] = a := by cases a; simp [wd]
theorem ops_pre {Q Q' : Exit → Act → World → Prop} (hd : noDefer ops = true) (hp : ∀ c a w, ¬ Q (.panic c) a w) (ho : ∀ a w, ¬ Q .outgrown a w) {r : List Nat}
    (hQ : ∀ a w, Q .normal a w → wpOpsIn (fen none) 0 P ops Q' r a w) : ∀ (l : List Nat) (a : Act) (w : World), wpOps P ops Q l a w → wpOpsIn (fen none) 0 P ops Q' (l ++ r) a w
  | [], a, w, h => hQ a w h
  | i :: rest, a, w, h => by
    have ih := ops_pre hd hp ho hQ rest
    simp only [wpOps] at h
    simp only [wpOpsIn, List.cons_append]
    cases hi : ops[i]? with
    | none => rw [hi] at h; exact ih a w h
    | some o =>
      rw [hi] at h
      dsimp only at h ⊢
      by_cases hw : Region.wanted o (yielded ops a.tmps) = true
      · rw [if_pos hw] at h ⊢
        have h := h.resolve_right fun q => by obtain ⟨a', w', hq⟩ := q.2; exact ho _ _ hq
        refine ⟨fun _ _ => trivial, ?_⟩
        rw [show (fen none).round = none from rfl, Oper.semAt_none]
        unfold Oper.wp at h
        generalize (execOp a.eval o).run P w = q at h ⊢
        cases q with
        | ok n w' =>
          cases n with
          | value v => exact ih _ _ h
          | skip => exact ih _ _ h
          | enter f args =>
            refine ⟨fun q => (by cases q), CallsIn.mono (callsIn_wide.2 h) ?_⟩
            intro e w'' hr
            cases e with
            | returned v => exact ih _ _ hr
            | panicked c => exact absurd hr (hp _ _ _)
            | outgrown => obtain ⟨a', w3, hq⟩ := hr; exact absurd hq (ho _ _)
          | row row args => exact ⟨fun q => (by cases q), RowsIn.mono (rows_in (ρ := none) h) fun v w'' hr => ih _ _ hr⟩
          | defer d => exact ih _ _ h
          | _ => exact h.elim
        | halt e w' =>
          cases e with
          | panic v => exact absurd h (hp _ _ _)
          | _ => exact h.elim
      · rw [if_neg hw] at h ⊢
        exact ⟨fun _ _ => trivial, ih _ _ h⟩
theorem VL.of {l : List Oper} (k : Nat) (hl : ∀ j o, l[j]? = some o → ops[k + j]? = some o) (hd : noDefer ops = true) {r : List Nat} (h : VO P n w0 ops l σ Ω (fun σ' Ω' => VL P n w0 ops r σ' Ω' K)) : VL P n w0 ops (List.range' k l.length ++ r) σ Ω K :=
  fun Q hQ a W he hi => ops_pre hd (Q := fun e a W => e = .normal ∧ ∃ σ' Ω', VL P n w0 ops r σ' Ω' K ∧ EnvOk n σ' a ∧ Inv w0 Ω' W) (fun _ _ _ q => by cases q.1) (fun _ _ q => by cases q.1) (fun a W ⟨_, σ', Ω', hk, he, hi⟩ => hk Q hQ a W he hi) _ a W (wpOps_list l k a W hl (h.ops he hi))
theorem VL.nil (h : K σ Ω) : VL P n w0 ops [] σ Ω K := fun _ hQ a W he hi => hQ σ Ω a W h he hi
theorem VL.yield {i : Nat} {r : List Nat} {d : Nat} {x : Operand} {xs : List Operand} {ats : Array TypeId} {ty : TypeId} {pos : String} {af : Array Edge} {gd : Option (Nat × Bool)} {l : Nat} {vs : List Value} {m : Mem} {Post : Value → Mem → Prop} (c : Nat)
    (ho : ops[i]? = some ⟨some d, .call { callee := .value x, args := xs.toArray, argTypes := ats }, ty, pos, af, gd⟩) (hd : Nat.blt d n = true) (hg : gd = none ∨ ∃ j b, gd = some (j, b) ∧ gyes σ ops j b) (hx : ev σ x = some (.func (.yield l) #[] #[]))
    (ha : evs σ xs = some vs) (hm : cget Ω c = some m) (hy : ∀ W, Inv w0 Ω W → YldR P l vs W m Post) (h : ∀ v m', Post v m' → VL P n w0 ops r ((d, v) :: σ) (cset Ω c m') K) : VL P n w0 ops (i :: r) σ Ω K :=
  fun Q hQ a W he hi => by
    unfold wpOpsIn
    rw [ho]
    dsimp only
    have hw : Region.wanted ⟨some d, .call { callee := .value x, args := xs.toArray, argTypes := ats }, ty, pos, af, gd⟩ (yielded ops a.tmps) = true := by
      rcases hg with rfl | ⟨j, b, rfl, hj⟩
      · rfl
      · simp [Region.wanted, yielded_of he hj]
    rw [if_pos hw]
    refine ⟨fun _ _ => trivial, ?_⟩
    rw [show (fen none).round = none from rfl, Oper.semAt_none]
    obtain ⟨fn, tmps, assign, body, h1, h2⟩ := hy W hi
    have e : execOp a.eval ⟨some d, .call { callee := .value x, args := xs.toArray, argTypes := ats }, ty, pos, af, gd⟩ = Instr.yield l vs.toArray := by
      have e1 : a.eval x = .func (.yield l) #[] #[] := he.eval hx
      have e2 : #[] ++ xs.toArray.map a.eval ++ #[] = vs.toArray := by rw [← he.evals ha]; simp
      rw [← e2]
      show (do let d ← Deferred.ofValue (a.eval x) (xs.toArray.map a.eval); invoke d.target d.args) = _
      rw [e1]; rfl
    rw [e, h1]
    refine ⟨fun q => (by cases q), RoundIn.mono h2 ?_⟩
    rintro e' W' ⟨v, m', rfl, hp, hu⟩
    exact h v m' hp Q hQ _ W' (he.put hd v) (hi.upd hm hu)
theorem VL.skip {i : Nat} {r : List Nat} {d : Nat} {op : Op} {ty : TypeId} {pos : String} {af : Array Edge} {j : Nat} {b : Bool} (ho : ops[i]? = some ⟨some d, op, ty, pos, af, some (j, b)⟩) (hd : Nat.blt d n = true) (hg : gyes σ ops j (!b)) (h : VL P n w0 ops r ((d, undef) :: σ) Ω K) : VL P n w0 ops (i :: r) σ Ω K :=
  fun Q hQ a W he hi => by
    unfold wpOpsIn
    rw [ho]
    dsimp only
    have hw : ¬ Region.wanted ⟨some d, op, ty, pos, af, some (j, b)⟩ (yielded ops a.tmps) = true := by
      simp [Region.wanted, yielded_of he hg]
    rw [if_neg hw]
    exact ⟨fun _ _ => trivial, h Q hQ _ W (he.put hd _) hi⟩
theorem VX.regL {id : Nat} {l : List Oper} (ix : List Nat) (hix : List.range l.length = ix) (h : VL P n w0 l.toArray ix σ Ω (R none .normal)) : VX P n w0 none (.region id l.toArray false) R none σ Ω :=
  fun Q hQ a W he hi => wpIn_region (by
    rw [List.size_toArray, hix]
    have := h (fun e a W => Q e (wd a []) W) (fun σ' Ω' a W hk he hi => hQ _ _ σ' Ω' a W hk he hi) a W he hi
    rw [show dl none = [] from rfl, wd_nil]
    simpa only [wd_nil] using this)
end
/-- What a function that is ranged over promises, whatever its caller keeps in memory M g: it calls yield with what E says at a, goes on to nx a where yield says so, and ends where Dn says so, or where yield has said 'no more'. -/
def IterOk (P : Program) (gf : FuncId) (caps : List Value) (mo : Mem) {A : Type} (E : A → List Value → Mem → Prop) (nx : A → A) (a0 : A) (Dn : A → Prop) : Prop :=
  ∀ (G : Type) (M : G → Mem) (I : A → G → Prop) (X : G → Prop) (l : Nat) (W : World) (g0 : G), I a0 g0 → mle (mun (M g0) mo) (wm W) → mdj (M g0) mo →
    (∀ a g args mr W', I a g → E a args mr → Inv W [(0, mout (wm W) (mun (M g0) mo)), (1, M g), (2, mr)] W' → YldR P l args W' (mun (M g) mr) (fun v m' => ∃ g', m' = M g' ∧ ((v = .bool true ∧ I (nx a) g') ∨ (v = .bool false ∧ X g')))) →
    CallR P gf (.func (.yield l) #[] #[] :: caps) W (mun (M g0) mo) (fun _ m' => ∃ g', m' = M g' ∧ (X g' ∨ ∃ a, I a g' ∧ Dn a))
/-- The same, of a function that looks besides at what stands in memory mf, which is not its own. -/
def IterR (P : Program) (gf : FuncId) (caps : List Value) (mf mo : Mem) {A : Type} (E : A → List Value → Mem → Prop) (nx : A → A) (a0 : A) (Dn : A → Prop) : Prop :=
  ∀ (G : Type) (M : G → Mem) (I : A → G → Prop) (X : G → Prop) (l : Nat) (W : World) (g0 : G), I a0 g0 → mle (mun (M g0) mo) (wm W) → mdj (M g0) mo → mle mf (wm W) → mdj mf (mun (M g0) mo) →
    (∀ a g args mr W', I a g → E a args mr → Inv W [(0, mout (wm W) (mun (M g0) mo)), (1, M g), (2, mr)] W' → YldR P l args W' (mun (M g) mr) (fun v m' => ∃ g', m' = M g' ∧ ((v = .bool true ∧ I (nx a) g') ∨ (v = .bool false ∧ X g')))) →
    CallR P gf (.func (.yield l) #[] #[] :: caps) W (mun (M g0) mo) (fun _ m' => ∃ g', m' = M g' ∧ (X g' ∨ ∃ a, I a g' ∧ Dn a))
theorem IterOk.r {P : Program} {gf : FuncId} {caps : List Value} {mf mo : Mem} {A : Type} {E : A → List Value → Mem → Prop} {nx : A → A} {a0 : A} {Dn : A → Prop} (h : IterOk P gf caps mo E nx a0 Dn) : IterR P gf caps mf mo E nx a0 Dn :=
  fun G M I X l W g0 h0 h1 h2 _ _ h3 => h G M I X l W g0 h0 h1 h2 h3
theorem Inv.hd {w0 W : World} {Ω : Ctx} {i : Nat} {m : Mem} (h : Inv w0 ((i, m) :: Ω) W) : mle m (wm W) ∧ (∀ p ∈ Ω, mdj m p.2) ∧ Inv w0 Ω W :=
  ⟨h.le _ (.head _), (List.pairwise_cons.1 h.dj).1, h.tl⟩
theorem Inv.mk' {w0 W : World} {Ω : Ctx} {i : Nat} {m : Mem} (h : Inv w0 Ω W) (h1 : mle m (wm W)) (h2 : ∀ p ∈ Ω, mdj m p.2) : Inv w0 ((i, m) :: Ω) W :=
  ⟨h.os, h.tape, h.output, h.size, fun p hp => by rcases List.mem_cons.1 hp with rfl | hp <;> first | exact h1 | exact h.le _ hp, List.pairwise_cons.2 ⟨h2, h.dj⟩⟩
theorem Inv.move {w0 W W' : World} {Ω : Ctx} (h : Inv w0 Ω W) (ho : W'.os = W.os) (ht : W'.tape = W.tape) (hu : W'.output = W.output) (hs : W.heap.size ≤ W'.heap.size) (hl : ∀ p ∈ Ω, mle p.2 (wm W')) : Inv w0 Ω W' :=
  ⟨ho.trans h.os, ht.trans h.tape, hu.trans h.output, Nat.le_trans h.size hs, hl, h.dj⟩
theorem all2 {P : Nat × Mem → Prop} {a : Nat × Mem} {l : Ctx} (h : P a) (h2 : ∀ p ∈ l, P p) : ∀ p ∈ a :: l, P p := fun p hp => by rcases List.mem_cons.1 hp with rfl | hp <;> first | exact h | exact h2 _ hp
def aggC : Value → Array Value
  | .agg a => a
  | _ => #[]
theorem Inv.rot {w0 W : World} {p : Nat × Mem} {Ω : Ctx} (h : Inv w0 (p :: Ω) W) : Inv w0 (Ω ++ [p]) W :=
  ⟨h.os, h.tape, h.output, h.size, fun q hq => h.le q (by rcases List.mem_append.1 hq with hq | hq; exact .tail _ hq; rw [List.mem_singleton.1 hq]; exact .head _),
   List.pairwise_append.2 ⟨(List.pairwise_cons.1 h.dj).2, List.pairwise_singleton _ _, fun a ha b hb => by rw [List.mem_singleton.1 hb]; exact ((List.pairwise_cons.1 h.dj).1 a ha).symm⟩⟩
/-- jumps that a round leaves. -/
def jumpOf : Exit → Option Code
  | .ret => some .ret
  | .exit id => some (.exit id)
  | _ => none
section
variable {P : Program} {n : Nat} {w0 : World} {σ : Env} {rest : Ctx} {R : Option Nat → Exit → Env → Ctx → Prop}
theorem fold_get : ∀ (p : List Nat) (args : List Value) (t : Array Value), (p.toArray.zip args.toArray).foldl (fun t (q : Nat × Value) => t.setIfInBounds q.1 q.2) t = (p.zip args).foldl (fun t q => t.setIfInBounds q.1 q.2) t := fun p args t => by
  rw [← Array.foldl_toList]; simp
theorem fold_env : ∀ (l : List (Nat × Value)) {σ : Env} {a : Act}, EnvOk n σ a → (∀ q ∈ l, q.1 < n) → EnvOk n (l.reverse ++ σ) { a with tmps := l.foldl (fun t q => t.setIfInBounds q.1 q.2) a.tmps }
  | [], _, _, h, _ => h
  | q :: l, σ, a, h, hl => by
    have h1 := fold_env l (h.put (d := q.1) (by simpa using hl q (.head _)) q.2) fun x hx => hl x (.tail _ hx)
    rw [List.reverse_cons, List.append_assoc]
    exact h1
set_option maxHeartbeats 1000000 in
theorem VX.rangeR {A G : Type} {g : Operand} {p : List Nat} {assign body : Code} {gf : FuncId} {caps : List Value} (i k jD jL jR o : Nat) (M : G → Mem) (I : A → G → Prop) (X : Exit → G → Prop)
    {mf mo : Mem} {E : A → List Value → Mem → Prop} {nx : A → A} {a0 : A} {Dn : A → Prop} (g0 : G) (h0 : I a0 g0) (hit : ∀ W, Inv w0 ((k, mo) :: (i, M g0) :: rest) W → IterR P gf caps mf mo E nx a0 Dn) (hmf : mf = mnil ∨ ∃ c, (c, mf) ∈ rest)
    (hg : ev σ g = some (.func (.func gf) #[] caps.toArray)) (hf : fnOk P gf = true) (hp : p.all (Nat.blt · n) = true) (hE : ∀ a args mr, E a args mr → args.length = p.length) {Bx : Type} (σa : List Value → Bx → Env) (xt : List Value → Bx → Ctx)
    (hassign : ∀ w1 l a args mr Ω, E a args mr → VX P n w1 (some l) assign (fun d e σ' Ω' => d = none ∧ e = .normal ∧ ∃ B, Go.Proofs.YtonbpfncmlijnaaGreat.esub (σa args B) σ' ∧ ∀ W, Inv w1 Ω' W → Inv w1 (Ω ++ xt args B) W) none ((p.zip args).reverse ++ σ) Ω)
    (hbody : ∀ w1 l D a g args mr ml mo' B, I a g → E a args mr → VX P n w1 (some l) body (fun d e σ' Ω' => d = none ∧ ∀ W, Inv w1 Ω' W → ∃ g', Inv w1 ((o, mo') :: (jL, ml) :: (i, M g') :: (jD, mone D (.deferred (some []))) :: rest) W ∧
      ((e = .normal ∧ I (nx a) g') ∨ ((jumpOf e).isSome = true ∧ X e g'))) none (σa args B) (((jR, mr) :: (o, mo') :: (jL, ml) :: (i, M g) :: (jD, mone D (.deferred (some []))) :: rest) ++ xt args B))
    (hdone : ∀ D a g, I a g → Dn a → R (some D) .normal σ ((i, M g) :: (jD, mone D (.deferred (some []))) :: rest))
    (hstop : ∀ D e g, X e g → (jumpOf e).isSome = true → R (some D) e σ ((i, M g) :: (jD, mone D (.deferred (some []))) :: rest)) :
    VX P n w0 none (.rangeFunc g p.toArray assign body) R none σ ((k, mo) :: (i, M g0) :: rest) := by
  intro Q hQ a W he hi
  rw [show dl none = [] from rfl, wd_nil]
  refine wpIn_rangeFunc ?_
  intro fn hfn
  obtain ⟨rec, hrec⟩ : ∃ rec : LoopState → Option Code → Loop, rec = fun st pe => { state := st, pending := pe, fn, tmps := a.tmps, params := p.toArray, assign, body, defers := W.heap.size } := ⟨_, rfl⟩
  obtain ⟨W1, hW1⟩ : ∃ W1, (W.alloc (.deferred (some []))).alloc (.loop (rec .ready none)) = W1 := ⟨_, rfl⟩
  obtain ⟨D, hD⟩ : ∃ D, D = W.heap.size := ⟨_, rfl⟩
  obtain ⟨L, hL⟩ : ∃ L, L = W.heap.size + 1 := ⟨_, rfl⟩
  have hi1 : Inv w0 ((jL, mone L (.loop (rec .ready none))) :: (jD, mone D (.deferred (some []))) :: (k, mo) :: (i, M g0) :: rest) W1 := by
    have h1 := (hi.alloc jD (.deferred (some []))).alloc jL (.loop (rec .ready none))
    rw [World.size_alloc] at h1
    rw [← hW1, hL, hD]; exact h1
  obtain ⟨l1, d1, hi2⟩ := hi1.hd
  obtain ⟨l2, d2, hi3⟩ := hi2.hd
  obtain ⟨l3, d3, hi4⟩ := hi3.hd
  obtain ⟨l4, d4, hi5⟩ := hi4.hd
  have dLD : mdj (mone L (.loop (rec .ready none))) (mone D (.deferred (some []))) := d1 _ (.head _)
  have dLo : mdj (mone L (.loop (rec .ready none))) mo := d1 _ (.tail _ (.head _))
  have dLi : mdj (mone L (.loop (rec .ready none))) (M g0) := d1 _ (.tail _ (.tail _ (.head _)))
  have dDo : mdj (mone D (.deferred (some []))) mo := d2 _ (.head _)
  have dDi : mdj (mone D (.deferred (some []))) (M g0) := d2 _ (.tail _ (.head _))
  have doi : mdj mo (M g0) := d3 _ (.head _)
  refine ⟨L, [{ target := .collected D, args := #[] }], W1, { target := .fn (.func gf) caps.toArray, args := #[.func (.yield L) #[] #[]] }, W1, gf, (.func (.yield L) #[] #[] :: caps).toArray, W1, ?_, ?_, ?_, ?_, fun q => (by cases q), ?_⟩
  · rw [show (fen none).round = none from rfl, ← hW1, hrec, hL, hD]; exact run_enterLoop_outer _ _ _ _ _
  · simp only [resolve, he.eval hg]
    simp [go_sem]
  · intro f' _; trivial
  · show (callFunc gf (#[.func (.yield L) #[] #[]] ++ caps.toArray)).run P W1 = _
    rw [run_call_of_ok hf]
    simp
  -- the iterator's contract at our invariant, the record beside it
  have hm0 : mle (mun (mun (mone L (.loop (rec .ready none))) (M g0)) mo) (wm W1) := mun_le (mun_le l1 l4) l3
  have hcall := hit W hi (Mem × G) (fun q => mun q.1 (M q.2)) (fun a q => q.1 = mone L (.loop (rec .ready none)) ∧ mdj q.1 (M q.2) ∧ I a q.2)
    (fun q => ∃ e c, jumpOf e = some c ∧ q.1 = mone L (.loop (rec .done (some c))) ∧ mdj q.1 (M q.2) ∧ X e q.2) L W1 (mone L (.loop (rec .ready none)), g0) ⟨rfl, dLi, h0⟩ hm0 (mdj_un dLo doi.symm) (by rcases hmf with rfl | ⟨c, hc⟩ <;> first | exact mle_nil _ | exact hi5.le _ hc) (by rcases hmf with rfl | ⟨c, hc⟩ <;> first | exact mdj_nil' _ | exact (mdj_un (mdj_un (d1 _ (.tail _ (.tail _ (.tail _ hc)))) (d4 _ hc)) (d3 _ (.tail _ hc))).symm) ?_
  · refine CallsIn.mono (callsIn_wide.2 hcall) ?_
    rintro e W2 ⟨v, m', rfl, ⟨⟨ml, g'⟩, rfl, hx⟩, hu⟩
    have hk : ∀ q ∈ (jD, mone D (.deferred (some []))) :: rest, mle q.2 (mout (wm W1) (mun (mun (mone L (.loop (rec .ready none))) (M g0)) mo)) :=
      all2 (mle_out l2 (mdj_un (mdj_un dLD dDi.symm) dDo.symm).symm) fun q hq => mle_out (hi5.le q hq) (mdj_un (mdj_un (d1 q (.tail _ (.tail _ (.tail _ hq)))) (d4 q hq)) (d3 q (.tail _ hq))).symm
    have hfar : ∀ q ∈ (jD, mone D (.deferred (some []))) :: rest, mdj (mun ml (M g')) q.2 := fun q hq b => by
      rcases hu.dom b with h | h | h
      · exact .inl h
      · right
        cases e : q.2 b with
        | none => rfl
        | some ob =>
          exfalso
          have hin : q.2 b = some ob := e
          have := hk q hq b ob hin
          unfold mout at this
          split at this
          · cases this
          · exact h (by assumption)
      · right
        cases e : q.2 b with
        | none => rfl
        | some ob =>
          have := (hk q hq b ob e)
          have := mout_le _ _ b ob this
          simp [wm, Array.getElem?_eq_none h] at this
    have hR5 : Inv w0 ((jD, mone D (.deferred (some []))) :: rest) W2 :=
      (Inv.mk' hi5 l2 fun q hq => d2 q (.tail _ (.tail _ hq))).move hu.os hu.tape hu.output hu.size fun q hq => (hk q hq).trans hu.keep
    have fin : ∀ st pe, ml = mone L (.loop (rec st pe)) → st ≠ .busy → mdj ml (M g') → ∃ w₄, (Instr.endLoop L).run P W2 = .ok pe w₄ ∧ Inv w0 ((i, M g') :: (jD, mone D (.deferred (some []))) :: rest) w₄ := by
      rintro st pe rfl hst hdj
      have hl : W2.heap[L]? = some (.loop (rec st pe)) := hu.le L _ (mle_un_left _ _ _ _ (mone_self _ _))
      refine ⟨W2.putObj L (.loop { rec st pe with state := .exhausted }), by have := run_endLoop (P := P) hl (by rw [hrec]; exact hst); rw [hrec] at this ⊢; exact this, ?_⟩
      have hM : mle (M g') (wm W2) := (mle_un_right hdj).trans hu.le
      have hmv : ∀ q ∈ (jD, mone D (.deferred (some []))) :: rest, mle q.2 (wm (W2.putObj L (.loop { rec st pe with state := .exhausted }))) := fun q hq => put_le (hR5.le q hq) (mdj_mone (L := L) (o := .loop (rec st pe)) fun b => (hfar q hq b).imp (fun z => by
        cases e : mone L (.loop (rec st pe)) b with
        | none => rfl
        | some ob => rw [mle_un_left _ (M g') b ob e] at z; cases z) id)
      refine Inv.mk' (hR5.move rfl rfl rfl (by rw [World.putObj_size]; exact Nat.le_refl _) hmv) (put_le hM (mdj_mone hdj)) fun q hq b => (hfar q hq b).imp (fun z => by
        cases e : M g' b with
        | none => rfl
        | some ob => rw [mle_un_right hdj b ob e] at z; cases z) id
    have hact : ({ a with defers := [{ target := .collected D, args := #[] }] ++ a.defers } : Act) = wd a (dl (some D)) := by
      show _ = ({ a with defers := a.defers ++ _ } : Act)
      rw [he.defers]; rfl
    rcases hx with ⟨e, c, hj, hml, hdj, hX⟩ | ⟨a', ⟨hml, hdj, hI⟩, hDn⟩
    · obtain ⟨w₄, hend, hinv⟩ := fin _ _ hml (by simp) hdj
      refine ⟨some c, w₄, hend, ?_⟩
      have hjs : (jumpOf e).isSome = true := by rw [hj]; rfl
      have hq := hQ (some D) e σ _ a w₄ (hstop D e g' hX hjs) he hinv
      rw [hact]
      cases e with
      | ret => cases hj; exact wpIn_ret hq
      | exit id => cases hj; exact wpIn_exit hq
      | _ => cases hj
    · obtain ⟨w₄, hend, hinv⟩ := fin _ _ hml (by simp) hdj
      refine ⟨none, w₄, hend, ?_⟩
      show Q .normal _ w₄
      rw [hact]
      exact hQ (some D) .normal σ _ a w₄ (hdone D a' g' hI hDn) he hinv
  -- a round
  rintro a1 ⟨ml, g1⟩ args mr W' ⟨hml, hdj, hI⟩ hEx hiv
  dsimp only at hml hdj hI hiv ⊢
  obtain ⟨k0, c0, hiv1⟩ := hiv.hd
  obtain ⟨k1, c1, hiv2⟩ := hiv1.hd
  obtain ⟨k2, _, _⟩ := hiv2.hd
  have e01 : mdj (mout (wm W1) (mun (mun (mone L (.loop (rec .ready none))) (M g0)) mo)) (mun ml (M g1)) := c0 _ (.head _)
  have e02 : mdj (mout (wm W1) (mun (mun (mone L (.loop (rec .ready none))) (M g0)) mo)) mr := c0 _ (.tail _ (.head _))
  have e12 : mdj (mun ml (M g1)) mr := c1 _ (.head _)
  have hk : ∀ q ∈ (jD, mone D (.deferred (some []))) :: rest, mle q.2 (mout (wm W1) (mun (mun (mone L (.loop (rec .ready none))) (M g0)) mo)) :=
    all2 (mle_out l2 (mdj_un (mdj_un dLD dDi.symm) dDo.symm).symm) fun q hq => mle_out (hi5.le q hq) (mdj_un (mdj_un (d1 q (.tail _ (.tail _ (.tail _ hq)))) (d4 q hq)) (d3 q (.tail _ hq))).symm
  have hlen := hE a1 args mr hEx
  have hLr : W'.heap[L]? = some (.loop (rec .ready none)) := (k1.trans (mle_refl _)) L _ (mle_un_left _ _ _ _ (by rw [hml]; exact mone_self _ _))
  have hM1 : mle (M g1) (wm W') := (mle_un_right hdj).trans k1
  have hml1 : mle ml (wm W') := (mle_un_left _ _).trans k1
  have dmr : mdj ml mr := fun b => (e12 b).imp (fun z => by
    cases e : ml b with
    | none => rfl
    | some ob => rw [mle_un_left ml (M g1) b ob e] at z; cases z) id
  have dMr : mdj (M g1) mr := fun b => (e12 b).imp (fun z => by
    cases e : M g1 b with
    | none => rfl
    | some ob => rw [mle_un_right hdj b ob e] at z; cases z) id
  obtain ⟨hand, hhand⟩ : ∃ x, x = mun (mun ml (M g1)) mr := ⟨_, rfl⟩
  obtain ⟨rs, hrs⟩ : ∃ x, x = (jD, mone D (.deferred (some []))) :: rest := ⟨_, rfl⟩
  have hR5 : Inv w0 rs W1 := by rw [hrs]; exact Inv.mk' hi5 l2 fun q hq => d2 q (.tail _ (.tail _ hq))
  rw [← hrs] at hk
  have hrW : ∀ q ∈ rs, mle q.2 (wm W') := fun q hq => (hk q hq).trans k0
  have hrh : ∀ q ∈ rs, mdj q.2 hand := fun q hq => by
    rw [hhand]; exact (mdj_un (e01.symm.mono (mle_refl _) (hk q hq)) (e02.symm.mono (mle_refl _) (hk q hq))).symm
  have hrp : (rs.map Prod.snd).Pairwise mdj := List.pairwise_map.2 hR5.dj
  obtain ⟨mo', hmo'⟩ : ∃ x, x = mout (mout (wm W') hand) (muns (rs.map Prod.snd)) := ⟨_, rfl⟩
  have ho1 : mle mo' (wm W') := by rw [hmo']; exact (mout_le _ _).trans (mout_le _ _)
  have ho2 : mdj mo' hand := by rw [hmo']; exact (mdj_out _ _).mono (mout_le _ _) (mle_refl _)
  have ho3 : ∀ q ∈ rs, mdj mo' q.2 := fun q hq => by
    rw [hmo']; exact (mdj_out _ _).mono (mle_refl _) ((seps_muns hrp).1 _ (List.mem_map_of_mem hq))
  have hsub : ∀ (x : Mem), mle x hand → ∀ q ∈ rs, mdj x q.2 := fun x hx q hq => ((hrh q hq).mono (mle_refl _) hx).symm
  have hu1 : mle ml hand := by rw [hhand]; exact (mle_un_left _ _).trans (mle_un_left _ _)
  have hu2 : mle (M g1) hand := by rw [hhand]; exact (mle_un_right hdj).trans (mle_un_left _ _)
  have hu3 : mle mr hand := by rw [hhand]; exact mle_un_right e12
  have hrsW : Inv W' rs W' := ⟨rfl, rfl, rfl, Nat.le_refl _, hrW, hR5.dj⟩
  have hΩ : ∀ ml', mle ml' (wm W') → mdj ml' (M g1) → mdj ml' mr → (∀ q ∈ rs, mdj ml' q.2) → mdj mo' ml' → Inv W' ((jR, mr) :: (o, mo') :: (jL, ml') :: (i, M g1) :: rs) W' := fun ml' q1 q2 q3 q4 q5 =>
    (((hrsW.mk' hM1 (hsub _ hu2)).mk' q1 (all2 q2 q4)).mk' ho1 (all2 q5 (all2 (ho2.mono (mle_refl _) hu2) ho3))).mk' k2 (all2 (ho2.mono (mle_refl _) hu3).symm (all2 q3.symm (all2 dMr.symm (hsub _ hu3))))
  have hΩ0 := hΩ ml hml1 hdj dmr (hsub _ hu1) (ho2.mono (mle_refl _) hu1)
  have hy := run_yield (P := P) (args := args.toArray) hLr (by rw [hrec]; simp [hlen])
  rw [hrec] at hy
  refine ⟨fn, _, assign, body, hy, roundIn_of_wpIn (F := Fence.wide) trivial ?_⟩
  dsimp only
  rw [fold_get]
  have hpn : ∀ q ∈ p.zip args, q.1 < n := fun q hq => by
    have h1 := List.all_eq_true.1 hp q.1 (List.of_mem_zip hq).1
    simpa using h1
  have heA : EnvOk n ((p.zip args).reverse ++ σ) ({ tmps := (p.zip args).foldl (fun t q => t.setIfInBounds q.1 q.2) a.tmps, defers := [] } : Act) := by
    have := fold_env (p.zip args) he hpn
    rw [he.defers] at this
    exact this
  have hlift : ∀ (c : Code) (Q' : Exit → Act → World → Prop) (b : Act) (Wx : World), c.wpIn (fen (some L)) 0 P Q' b Wx → c.wpIn (Fence.wide.inRound L) 0 P Q' b Wx := fun _ _ _ _ h => h
  refine hlift _ _ _ _ ?_
  have hA := hassign W' L a1 args mr _ hEx (Exit.then (fun a₁ w₁ => ∃ w₂, (Instr.beginRound L).run P w₁ = .ok () w₂ ∧ body.wpIn (Fence.wide.inRound L) 0 P (roundPost P L fun e W'' => ∃ v m', e = .returned v ∧ (∃ g' : Mem × G, m' = mun g'.1 (M g'.2) ∧ ((v = .bool true ∧ (g'.1 = mone L (.loop (rec .ready none)) ∧ mdj g'.1 (M g'.2) ∧ I (nx a1) g'.2)) ∨ (v = .bool false ∧ ∃ e c, jumpOf e = some c ∧ g'.1 = mone L (.loop (rec .done (some c))) ∧ mdj g'.1 (M g'.2) ∧ X e g'.2))) ∧ Upd W' (mun (mun ml (M g1)) mr) W'' m') a₁ w₂) fun _ _ _ => False) ?_ _ W' heA hΩ0
  · rw [show dl none = [] from rfl, wd_nil] at hA; rw [hrec] at hA ⊢; exact hA
  rintro d' e σ' Ω' b W1' ⟨rfl, rfl, B, hsub', hΩ'⟩ heb hib0
  have hib := hΩ' W1' hib0
  simp only [List.cons_append] at hib
  rw [show dl none = [] from rfl, wd_nil]
  -- the record is busy
  obtain ⟨b1, b2, hib1⟩ := hib.hd
  obtain ⟨b3, b4, hib2⟩ := hib1.hd
  obtain ⟨b5, b6, hib3⟩ := hib2.hd
  have hL1 : W1'.heap[L]? = some (.loop (rec .ready none)) := b5 L _ (by rw [hml]; exact mone_self _ _)
  refine ⟨W1'.putObj L (.loop { rec .ready none with state := .busy }), run_beginRound hL1 (by rw [hrec]), ?_⟩
  have fr : ∀ x, mdj ml x → x L = none := fun x hx => mdj_mone (L := L) (o := .loop (rec .ready none)) (by rw [← hml]; exact hx)
  have hib' : Inv W' ((jR, mr) :: (o, mo') :: (jL, mone L (.loop { rec .ready none with state := .busy })) :: (i, M g1) :: (rs ++ xt args B)) (W1'.putObj L (.loop { rec .ready none with state := .busy })) := by
    have sw : ∀ x, mdj ml x → mdj (mone L (.loop { rec .ready none with state := .busy })) x := fun x hx => mdj_swap (o := .loop (rec .ready none)) (by rw [← hml]; exact hx)
    have z1 : mdj ml (M g1) := b6 _ (.head _)
    refine (((Inv.move (W' := W1'.putObj L (.loop { rec .ready none with state := .busy })) hib3 rfl rfl rfl (by rw [World.putObj_size]; exact Nat.le_refl _) fun q hq => put_le (hib3.le q hq) (fr _ (b6 q hq))).mk' (put_one (hml ▸ b5)) fun q hq => sw _ (b6 q hq)).mk' (put_le b3 (fr _ (b4 _ (.head _)).symm)) (all2 (sw _ (b4 _ (.head _)).symm).symm fun q hq => b4 q (.tail _ hq))).mk' (put_le b1 (fr _ (b2 _ (.tail _ (.head _))).symm)) (all2 (b2 _ (.head _)) (all2 (sw _ (b2 _ (.tail _ (.head _))).symm).symm fun q hq => b2 q (.tail _ (.tail _ hq))))
  have hB := hbody W' L D a1 g1 args mr (mone L (.loop { rec .ready none with state := .busy })) mo' B hI hEx
  simp only [List.cons_append] at hB
  rw [← List.cons_append, ← hrs] at hB
  have hB2 := hB (roundPost P L fun e W'' => ∃ v m', e = .returned v ∧ (∃ g' : Mem × G, m' = mun g'.1 (M g'.2) ∧ ((v = .bool true ∧ (g'.1 = mone L (.loop (rec .ready none)) ∧ mdj g'.1 (M g'.2) ∧ I (nx a1) g'.2)) ∨ (v = .bool false ∧ ∃ e c, jumpOf e = some c ∧ g'.1 = mone L (.loop (rec .done (some c))) ∧ mdj g'.1 (M g'.2) ∧ X e g'.2))) ∧ Upd W' (mun (mun ml (M g1)) mr) W'' m') ?_ b _ (heb.sub hsub') hib'
  · rw [show dl none = [] from rfl, wd_nil] at hB2; exact hB2
  rintro d'' e2 σ2 Ω2 b2' W3 ⟨rfl, hto⟩ heb2 hib4
  obtain ⟨g', hto, hx⟩ := hto W3 hib4
  obtain ⟨q1, q2, hq1⟩ := hto.hd
  obtain ⟨q3, q4, hq2⟩ := hq1.hd
  obtain ⟨q5, q6, hq3⟩ := hq2.hd
  have hL3 : W3.heap[L]? = some (.loop { rec .ready none with state := .busy }) := q3 L _ (mone_self _ _)
  have dM : mdj (mone L (.loop { rec .ready none with state := .busy })) (M g') := q4 _ (.head _)
  have done : ∀ (jump : Option Code), ∃ w4, (Instr.endRound L jump).run P W3 = .ok (.bool jump.isNone) w4 ∧ mdj (mone L (.loop (rec (if jump.isNone then .ready else .done) jump))) (M g') ∧
      Upd W' (mun (mun ml (M g1)) mr) w4 (mun (mone L (.loop (rec (if jump.isNone then .ready else .done) jump))) (M g')) := fun jump => by
    have hend := run_endRound (P := P) jump hL3
    refine ⟨W3.putObj L (.loop (rec (if jump.isNone then .ready else .done) jump)), by rw [hrec] at hend ⊢; exact hend, mdj_swap dM, ?_⟩
    have hfree : ∀ x, mdj (mone L (.loop { rec .ready none with state := .busy })) x → x L = none := fun x hx => mdj_mone hx
    rw [← hhand]
    refine ⟨hq3.os, hq3.tape, hq3.output, by rw [World.putObj_size]; exact hq3.size, ?_, mun_le ?_ (put_le q5 (hfree _ dM)), ?_⟩
    · intro x ob hxo
      cases hr : muns (rs.map Prod.snd) x with
      | some ob' =>
        have hle : mle (muns (rs.map Prod.snd)) (mout (wm W') hand) := muns_le fun y hy => by
          obtain ⟨q, hq, rfl⟩ := List.mem_map.1 hy
          exact mle_out (hrW q hq) (hrh q hq)
        have e1 := hle x ob' hr
        rw [hxo] at e1; cases e1
        refine put_le (muns_le fun y hy => ?_) ?_ x ob hr
        · obtain ⟨q, hq, rfl⟩ := List.mem_map.1 hy
          exact hq3.le q hq
        · have : mdj (muns (rs.map Prod.snd)) (mone L (.loop { rec .ready none with state := .busy })) := mdj_muns fun y hy => by
            obtain ⟨q, hq, rfl⟩ := List.mem_map.1 hy
            exact (q4 q (.tail _ hq)).symm
          exact hfree _ this.symm
      | none =>
        have : mo' x = some ob := by rw [hmo']; simp only [mout, hr]; exact hxo
        exact put_le q1 (hfree _ (q2 _ (.head _)).symm) x ob this
    · have := put_one (W := W3) (L := L) (o' := .loop { rec .ready none with state := .busy }) (o := .loop { rec .ready none with state := if jump.isNone then .ready else .done, pending := jump }) q3
      rw [hrec] at this ⊢; exact this
    · intro x
      by_cases hxL : x = L
      · refine .inr (.inl ?_)
        have := hu1 L _ (by rw [hml]; exact mone_self _ _)
        rw [hxL, this]; simp
      · cases hM : M g' x with
        | none => left; simp only [mun, mone_ne _ hxL]; exact hM
        | some ob =>
          right
          rcases Nat.lt_or_ge x W'.heap.size with hlt | hge
          · left
            intro hnone
            have hw : wm W' x = some W'.heap[x] := Array.getElem?_eq_getElem hlt
            have hbig : mout (wm W') hand x = some W'.heap[x] := by simp only [mout, hnone]; exact hw
            cases hr : muns (rs.map Prod.snd) x with
            | some ob' =>
              have : mdj (muns (rs.map Prod.snd)) (M g') := mdj_muns fun y hy => by
                obtain ⟨q, hq, rfl⟩ := List.mem_map.1 hy
                exact (q6 q hq).symm
              rcases this x with h | h
              · rw [hr] at h; cases h
              · rw [hM] at h; cases h
            | none =>
              have h1 : mo' x = some W'.heap[x] := by rw [hmo']; simp only [mout, hr]; exact hbig
              rcases (q2 _ (.tail _ (.head _))) x with h | h
              · rw [h1] at h; cases h
              · exact absurd (hM.symm.trans h) (by simp)
          · exact .inr hge
  rw [show dl none = [] from rfl, wd_nil]
  rcases hx with ⟨rfl, hI'⟩ | ⟨hj, hX'⟩
  · obtain ⟨w4, h1, h2, h3⟩ := done none
    exact ⟨_, w4, h1, _, _, rfl, ⟨(_, g'), rfl, .inl ⟨rfl, rfl, h2, hI'⟩⟩, h3⟩
  · cases e2 with
    | ret =>
      obtain ⟨w4, h1, h2, h3⟩ := done (some .ret)
      exact ⟨_, w4, h1, _, _, rfl, ⟨(_, g'), rfl, .inr ⟨rfl, .ret, _, rfl, rfl, h2, hX'⟩⟩, h3⟩
    | exit id =>
      obtain ⟨w4, h1, h2, h3⟩ := done (some (.exit id))
      exact ⟨_, w4, h1, _, _, rfl, ⟨(_, g'), rfl, .inr ⟨rfl, .exit id, _, rfl, rfl, h2, hX'⟩⟩, h3⟩
    | _ => cases hj
theorem VX.rangeF {A G : Type} {g : Operand} {p : List Nat} {assign body : Code} {gf : FuncId} {caps : List Value} (i k jD jL jR o : Nat) (M : G → Mem) (I : A → G → Prop) (X : Exit → G → Prop)
    {mo : Mem} {E : A → List Value → Mem → Prop} {nx : A → A} {a0 : A} {Dn : A → Prop} (g0 : G) (h0 : I a0 g0) (hit : ∀ W, Inv w0 ((k, mo) :: (i, M g0) :: rest) W → IterOk P gf caps mo E nx a0 Dn)
    (hg : ev σ g = some (.func (.func gf) #[] caps.toArray)) (hf : fnOk P gf = true) (hp : p.all (Nat.blt · n) = true) (hE : ∀ a args mr, E a args mr → args.length = p.length) (σa : List Value → Env)
    (hassign : ∀ w1 l args Ω, args.length = p.length → VX P n w1 (some l) assign (fun d e σ' Ω' => d = none ∧ e = .normal ∧ Go.Proofs.YtonbpfncmlijnaaGreat.esub (σa args) σ' ∧ Ω' = Ω) none ((p.zip args).reverse ++ σ) Ω)
    (hbody : ∀ w1 l D a g args mr ml mo', I a g → E a args mr → VX P n w1 (some l) body (fun d e σ' Ω' => d = none ∧ ∀ W, Inv w1 Ω' W → ∃ g', Inv w1 ((o, mo') :: (jL, ml) :: (i, M g') :: (jD, mone D (.deferred (some []))) :: rest) W ∧
      ((e = .normal ∧ I (nx a) g') ∨ ((jumpOf e).isSome = true ∧ X e g'))) none (σa args) ((jR, mr) :: (o, mo') :: (jL, ml) :: (i, M g) :: (jD, mone D (.deferred (some []))) :: rest))
    (hdone : ∀ D a g, I a g → Dn a → R (some D) .normal σ ((i, M g) :: (jD, mone D (.deferred (some []))) :: rest))
    (hstop : ∀ D e g, X e g → (jumpOf e).isSome = true → R (some D) e σ ((i, M g) :: (jD, mone D (.deferred (some []))) :: rest)) :
    VX P n w0 none (.rangeFunc g p.toArray assign body) R none σ ((k, mo) :: (i, M g0) :: rest) :=
  VX.rangeR i k jD jL jR o M I X g0 h0 (fun W h => (hit W h).r (mf := mnil)) (.inl rfl) hg hf hp hE (Bx := Unit) (fun a _ => σa a) (fun _ _ => [])
    (fun w1 l a args mr Ω hEx Q hQ => hassign w1 l args Ω (hE _ _ _ hEx) Q fun d e σ' Ω' b W h => hQ d e σ' Ω' b W ⟨h.1, h.2.1, (), h.2.2.1, fun W hW => by rw [List.append_nil, ← h.2.2.2]; exact hW⟩)
    (fun w1 l D a g args mr ml mo' _ h1 h2 => by rw [List.append_nil]; exact hbody w1 l D a g args mr ml mo' h1 h2) hdone hstop
end
theorem mun_nil (m : Mem) : mun m mnil = m := by
  funext g; unfold mun mnil; cases m g <;> rfl
section
variable {P : Program} {n : Nat} {w0 : World} {σ : Env} {Ω : Ctx} {K : Env → Ctx → Prop} {R : Option Nat → Exit → Env → Ctx → Prop}
theorem VL.pre {l0 : List Oper} (k : Nat) {r : List Nat} (hd : noDefer l0.toArray = true) (h : VO P n w0 l0.toArray (l0.take k) σ Ω (fun σ' Ω' => VL P n w0 l0.toArray r σ' Ω' K)) : VL P n w0 l0.toArray (List.range' 0 (l0.take k).length ++ r) σ Ω K :=
  VL.of 0 (fun j o h' => by
    have hj : j < k := by
      rcases Nat.lt_or_ge j k with q | q
      · exact q
      · rw [List.getElem?_eq_none (by rw [List.length_take]; omega)] at h'; cases h'
    rw [List.getElem?_take_of_lt hj] at h'
    simpa using h') hd h
theorem VL.post {l0 : List Oper} (k : Nat) {r : List Nat} (hr : List.range' k (l0.drop k).length = r) (hd : noDefer l0.toArray = true) (h : VO P n w0 l0.toArray (l0.drop k) σ Ω K) : VL P n w0 l0.toArray r σ Ω K := by
  have := VL.of (P := P) (n := n) (w0 := w0) (σ := σ) (Ω := Ω) (K := K) (ops := l0.toArray) (l := l0.drop k) (r := []) k (fun j o h' => by rw [List.getElem?_drop] at h'; simpa using h') hd
    (fun Q hQ a W he hi => h Q (fun σ' Ω' a W hk he hi => hQ σ' Ω' a W (VL.nil hk) he hi) a W he hi)
  rw [List.append_nil, hr] at this
  exact this
end
theorem Inv.three {w0 W : World} {i j k i' j' k' : Nat} {a b c : Mem} (h : Inv w0 [(i, a), (j, b), (k, c)] W) : Inv w0 [(i', a), (j', b), (k', c)] W := by
  obtain ⟨a1, a2, h1⟩ := h.hd
  obtain ⟨b1, b2, h2⟩ := h1.hd
  obtain ⟨c1, _, h3⟩ := h2.hd
  have e1 : mdj a b := a2 (j, b) (.head _)
  have e2 : mdj a c := a2 (k, c) (.tail _ (.head _))
  have e3 : mdj b c := b2 (k, c) (.head _)
  exact ((h3.mk' (i := k') c1 (fun _ q => by cases q)).mk' (i := j') b1 (all2 e3 fun _ q => by cases q)).mk' a1 (all2 e1 (all2 e2 fun _ q => by cases q))
section
open Go.RowKit Go.Maps Go.Sort Go.Shelf
def layKeys_ren : Go.Shelf.Ren := ⟨fun | 7 => 105 | 10 => 138 | n => n, fun | 23 => 108 | 26 => 9 | 3 => 113 | 28 => 152 | 0 => 0 | 27 => 151 | 33 => 177 | 4 => 4 | n => n, fun | n => n⟩
theorem layKeys : Go.Proofs.SlLaysZ.n7 Tryz.prog layKeys_ren := {
  mixed := by kernel_rfl
  f7 := ⟨Tryz.f105.name, by decide, Tryz.func105.trans (congrArg some (by kernel_rfl))⟩
  f10 := ⟨Tryz.f138.name, by decide, Tryz.func138.trans (congrArg some (by kernel_rfl))⟩
  t0 := Tryz.underlying0
  a0 := Tryz.isAgg0
  z0 := Tryz.sizeOf0
  v0 := Tryz.zeroValue0
  t4 := Tryz.underlying4
  a4 := Tryz.isAgg4
  z4 := Tryz.sizeOf4
  v4 := Tryz.zeroValue4
  t23 := Tryz.underlying108
  a23 := Tryz.isAgg108
  z23 := Tryz.sizeOf108
  v23 := Tryz.zeroValue108
  t26 := Tryz.underlying9
  a26 := Tryz.isAgg9
  z26 := Tryz.sizeOf9
  v26 := Tryz.zeroValue9
  t27 := Tryz.underlying151
  a27 := Tryz.isAgg151
  z27 := Tryz.sizeOf151
  v27 := Tryz.zeroValue151
  t28 := Tryz.underlying152
  a28 := Tryz.isAgg152
  z28 := Tryz.sizeOf152
  v28 := Tryz.zeroValue152
  t33 := Tryz.underlying177
  a33 := Tryz.isAgg177
  z33 := Tryz.sizeOf177
  v33 := Tryz.zeroValue177 }
def laySorted_ren : Go.Shelf.Ren := ⟨fun | 6 => 104 | 8 => 136 | 9 => 137 | 11 => 159 | 13 => 161 | 12 => 160 | 23 => 174 | 24 => 175 | 14 => 165 | 15 => 166 | 16 => 167 | 17 => 168 | 18 => 169 | 19 => 170 | 20 => 171 | 21 => 172 | 22 => 173 | 25 => 178 | 26 => 179 | 27 => 180 | 28 => 181 | 29 => 182 | 30 => 183 | 31 => 184 | n => n, fun | 26 => 9 | 28 => 152 | 24 => 57 | 0 => 0 | 3 => 3 | 37 => 166 | 48 => 203 | 50 => 163 | 4 => 4 | 40 => 196 | 39 => 195 | 45 => 200 | 5 => 5 | 9 => 9 | 51 => 205 | 55 => 209 | 57 => 211 | 58 => 212 | 33 => 177 | n => n, fun | n => n⟩
theorem laySorted : Go.Proofs.SlLaysZ.n6 Tryz.prog laySorted_ren := {
  mixed := by kernel_rfl
  f6 := ⟨Tryz.f104.name, by decide, Tryz.func104.trans (congrArg some (by kernel_rfl))⟩
  f8 := ⟨Tryz.f136.name, by decide, Tryz.func136.trans (congrArg some (by kernel_rfl))⟩
  f11 := ⟨Tryz.f159.name, by decide, Tryz.func159.trans (congrArg some (by kernel_rfl))⟩
  t0 := Tryz.underlying0
  a0 := Tryz.isAgg0
  z0 := Tryz.sizeOf0
  v0 := Tryz.zeroValue0
  t24 := Tryz.underlying57
  a24 := Tryz.isAgg57
  z24 := Tryz.sizeOf57
  v24 := Tryz.zeroValue57
  t26 := Tryz.underlying9
  a26 := Tryz.isAgg9
  z26 := Tryz.sizeOf9
  v26 := Tryz.zeroValue9
  t28 := Tryz.underlying152
  a28 := Tryz.isAgg152
  z28 := Tryz.sizeOf152
  v28 := Tryz.zeroValue152
  i26 := by kernel_rfl }
def laySort_ren : Go.Shelf.Ren := ⟨fun | 6 => 137 | 8 => 161 | 9 => 160 | 19 => 174 | 20 => 175 | 21 => 165 | 22 => 166 | 23 => 167 | 24 => 168 | 25 => 169 | 26 => 170 | 27 => 171 | 28 => 172 | 29 => 173 | 36 => 178 | 31 => 179 | 32 => 180 | 37 => 181 | 38 => 182 | 39 => 183 | 41 => 184 | n => n, fun | 27 => 57 | 29 => 9 | 3 => 3 | 32 => 166 | 26 => 57 | 0 => 0 | 44 => 203 | 46 => 163 | 4 => 4 | 36 => 196 | 35 => 195 | 41 => 200 | 5 => 5 | 9 => 9 | 53 => 205 | 57 => 209 | 63 => 211 | 64 => 212 | n => n, fun | n => n⟩
theorem laySort : Go.Proofs.SlLaysM.n6 Tryz.prog laySort_ren := {
  mixed := by kernel_rfl
  f6 := ⟨Tryz.f137.name, by decide, Tryz.func137.trans (congrArg some (by kernel_rfl))⟩
  f8 := Tryz.func161.trans (congrArg some (by kernel_rfl))
  f9 := ⟨Tryz.f160.name, by decide, Tryz.func160.trans (congrArg some (by kernel_rfl))⟩
  f19 := Tryz.func174.trans (congrArg some (by kernel_rfl))
  f20 := Tryz.func175.trans (congrArg some (by kernel_rfl))
  f21 := ⟨Tryz.f165.name, by decide, Tryz.func165.trans (congrArg some (by kernel_rfl))⟩
  f22 := ⟨Tryz.f166.name, by decide, Tryz.func166.trans (congrArg some (by kernel_rfl))⟩
  f23 := ⟨Tryz.f167.name, by decide, Tryz.func167.trans (congrArg some (by kernel_rfl))⟩
  f24 := ⟨Tryz.f168.name, by decide, Tryz.func168.trans (congrArg some (by kernel_rfl))⟩
  f25 := ⟨Tryz.f169.name, by decide, Tryz.func169.trans (congrArg some (by kernel_rfl))⟩
  f26 := ⟨Tryz.f170.name, by decide, Tryz.func170.trans (congrArg some (by kernel_rfl))⟩
  f27 := ⟨Tryz.f171.name, by decide, Tryz.func171.trans (congrArg some (by kernel_rfl))⟩
  f28 := ⟨Tryz.f172.name, by decide, Tryz.func172.trans (congrArg some (by kernel_rfl))⟩
  f29 := ⟨Tryz.f173.name, by decide, Tryz.func173.trans (congrArg some (by kernel_rfl))⟩
  f31 := Tryz.func179.trans (congrArg some (by kernel_rfl))
  f32 := Tryz.func180.trans (congrArg some (by kernel_rfl))
  f36 := ⟨Tryz.f178.name, by decide, Tryz.func178.trans (congrArg some (by kernel_rfl))⟩
  f37 := ⟨Tryz.f181.name, by decide, Tryz.func181.trans (congrArg some (by kernel_rfl))⟩
  f38 := ⟨Tryz.f182.name, by decide, Tryz.func182.trans (congrArg some (by kernel_rfl))⟩
  f39 := ⟨Tryz.f183.name, by decide, Tryz.func183.trans (congrArg some (by kernel_rfl))⟩
  f41 := ⟨Tryz.f184.name, by decide, Tryz.func184.trans (congrArg some (by kernel_rfl))⟩
  t0 := Tryz.underlying0
  a0 := Tryz.isAgg0
  z0 := Tryz.sizeOf0
  v0 := Tryz.zeroValue0
  t3 := Tryz.underlying3
  a3 := Tryz.isAgg3
  z3 := Tryz.sizeOf3
  v3 := Tryz.zeroValue3
  t4 := Tryz.underlying4
  a4 := Tryz.isAgg4
  z4 := Tryz.sizeOf4
  v4 := Tryz.zeroValue4
  t5 := Tryz.underlying5
  a5 := Tryz.isAgg5
  z5 := Tryz.sizeOf5
  v5 := Tryz.zeroValue5
  t9 := Tryz.underlying9
  a9 := Tryz.isAgg9
  z9 := Tryz.sizeOf9
  v9 := Tryz.zeroValue9
  t26 := Tryz.underlying57
  a26 := Tryz.isAgg57
  z26 := Tryz.sizeOf57
  v26 := Tryz.zeroValue57
  t27 := Tryz.underlying57
  a27 := Tryz.isAgg57
  z27 := Tryz.sizeOf57
  v27 := Tryz.zeroValue57
  t29 := Tryz.underlying9
  a29 := Tryz.isAgg9
  z29 := Tryz.sizeOf9
  v29 := Tryz.zeroValue9
  t32 := Tryz.underlying166
  a32 := Tryz.isAgg166
  z32 := Tryz.sizeOf166
  v32 := Tryz.zeroValue166
  t35 := Tryz.underlying195
  a35 := Tryz.isAgg195
  z35 := Tryz.sizeOf195
  v35 := Tryz.zeroValue195
  t36 := Tryz.underlying196
  a36 := Tryz.isAgg196
  z36 := Tryz.sizeOf196
  v36 := Tryz.zeroValue196
  t41 := Tryz.underlying200
  a41 := Tryz.isAgg200
  z41 := Tryz.sizeOf200
  v41 := Tryz.zeroValue200
  t44 := Tryz.underlying203
  a44 := Tryz.isAgg203
  z44 := Tryz.sizeOf203
  v44 := Tryz.zeroValue203
  t46 := Tryz.underlying163
  a46 := Tryz.isAgg163
  z46 := Tryz.sizeOf163
  v46 := Tryz.zeroValue163
  t53 := Tryz.underlying205
  a53 := Tryz.isAgg205
  z53 := Tryz.sizeOf205
  v53 := Tryz.zeroValue205
  t57 := Tryz.underlying209
  a57 := Tryz.isAgg209
  z57 := Tryz.sizeOf209
  v57 := Tryz.zeroValue209
  t63 := Tryz.underlying211
  a63 := Tryz.isAgg211
  z63 := Tryz.sizeOf211
  v63 := Tryz.zeroValue211
  t64 := Tryz.underlying212
  a64 := Tryz.isAgg212
  z64 := Tryz.sizeOf212
  v64 := Tryz.zeroValue212 }
theorem sortsL (m : Nat) : AnyZ.SortsIn Tryz.prog laySorted_ren Fence.wide m :=
  ⟨fun blk off cap ss W hH hblk hsz => callsIn_wide.2 (AnyM.slices_Sort_string laySort blk off cap ss W hH hblk hsz),
   fun p cap W => callsIn_wide.2 (AnyM.slices_Sort_string_none laySort p cap W)⟩
theorem sortedK (W : World) {g : Nat} {v0 : Value} {xs : MapD} (hbox : mle (mone g (.cells [v0].toArray 108 (0, 0))) (wm W)) {m0 : Mem} (hm0 : mle m0 (wm W)) (hm : Rd .tmap m0 [v0] xs) (hl : xs.length ≤ 1000000) :
    CallR Tryz.prog 104 [.func (.func 138) #[] [.pointer (some ⟨g, 0, none⟩)].toArray] W mnil (fun v m' => Ow (.sl .str) m' [v] (sortB (xs.map (·.1)))) :=
  sortedK_ok (te := 9) Tryz.underlying9 (fun W g b nn D hg hcell hown hmax hbytes => by
    have hseq : SeqGives Fence.wide 2 Tryz.prog 138 #[.pointer (some ⟨g, 0, none⟩)] encStr (fun ss => ss.Perm (strKeys D)) (Maps.size D) W :=
      AnyZ.keys_gives (ρ := layKeys_ren) { layKeys with } Fence.wide _ trivial rfl (by omega) g b nn D _ hg hcell hown
    exact AnyZ.sorted_in laySorted Fence.wide 5 trivial trivial trivial trivial rfl (by omega) (sortsL _) (enters_of Tryz.func137 (by kernel_rfl) rfl) 138 #[.pointer (some ⟨g, 0, none⟩)] trivial (enters_of Tryz.func138 (by kernel_rfl) rfl) _ _ hmax hbytes _ hseq) W hbox hm0 hm hl
theorem keys_ok (W : World) (mb : Option Nat) : CallR Tryz.prog 105 [(.map mb : Value)] W mnil (fun v m' => ∃ g1, v = .func (.func 138) #[] [.pointer (some ⟨g1, 0, none⟩)].toArray ∧ m' = mone g1 (.cells [(.map mb : Value)].toArray 108 (0, 0))) := by
  refine CallR.ofA (n := 4) Tryz.func105 rfl rfl rfl ?_
  refine VC.rs ?_
  refine VO.box (cs := [(.map mb : Value)]) 101 rfl rfl rfl (fun g1 => ?_)
  refine VO.as ?_
  refine VO.k1 1 ?_
  refine VC.rs ?_
  refine VO.y rfl (.mkf rfl) ?_
  refine VO.as ?_
  refine VO.k1 2 ?_
  refine VC.ret ?_
  refine ⟨_, _, res_run (rs := [.tmp 2]) rfl (.tmp rfl .nil), fun W_ hI => out_of (l := [mone g1 (.cells [(.map mb : Value)].toArray 108 (0, 0))]) hI [101] rfl rfl (mle_refl _) (fun hS_ => ⟨g1, rfl, ?_⟩)⟩
  exact mun_nil _
end
def cCheck (c : DCommit) : Int := if 1 ≤ c.1 ∧ c.1 ≤ 1048576 then if 1 ≤ c.2.1 ∧ c.2.1 ≤ 1048576 then batchCheck c.2.2 else 2 else 2
def cFollowsAt : Int → Int → Int → List DCommit → DFault
  | _, _, _, [] => (0, 0)
  | e, n, i, c :: r => if cCheck c ≠ 0 then (cCheck c, i) else if c.2.1 - 1 ≠ n ∨ c.1 < e then (15, i) else cFollowsAt c.1 c.2.1 (i + 1) r
def cFollows (e n : Int) (l : List DCommit) : DFault := cFollowsAt e n 0 l
theorem drop_next {α : Type} {l : List α} {k : Nat} {x : α} (h : l[k]? = some x) : l.drop k = x :: l.drop (k + 1) := by
  obtain ⟨h1, h2⟩ := List.getElem?_eq_some_iff.1 h
  rw [List.drop_eq_getElem_cons h1, h2]
theorem batchCheck_ok {l : List DOp} (h : batchCheck l = 0) : l.length ≤ 8 := by
  unfold batchCheck at h
  split at h
  · omega
  · split at h
    · cases h
    · omega
theorem batchCheck_range (l : List DOp) : 0 ≤ batchCheck l ∧ batchCheck l ≤ 3 := by
  unfold batchCheck
  split
  · omega
  · split
    · omega
    · split <;> omega
theorem cCheck_range (c : DCommit) : 0 ≤ cCheck c ∧ cCheck c ≤ 3 := by
  unfold cCheck
  split
  · split
    · exact batchCheck_range _
    · omega
  · omega
theorem cCheck_ok {c : DCommit} (h : cCheck c = 0) : 1 ≤ c.1 ∧ c.1 ≤ 1048576 ∧ 1 ≤ c.2.1 ∧ c.2.1 ≤ 1048576 ∧ batchCheck c.2.2 = 0 := by
  unfold cCheck at h
  split at h
  · split at h
    · exact ⟨by omega, by omega, by omega, by omega, h⟩
    · cases h
  · cases h
theorem cFollowsAt_ok : ∀ {l : List DCommit} {e n i : Int}, (cFollowsAt e n i l).1 = 0 → ∀ c ∈ l, cCheck c = 0
  | c :: r, e, n, i, h, x, hx => by
    unfold cFollowsAt at h
    split at h
    · exact absurd h (by assumption)
    · rename_i h1
      split at h
      · cases h
      · rcases List.mem_cons.1 hx with rfl | hx
        · exact Decidable.not_not.1 h1
        · exact cFollowsAt_ok h x hx
theorem follows_step {e n i : Int} {l : List DCommit} {k : Nat} {x : DCommit} (h : l[k]? = some x) (h1 : cCheck x = 0) (h2 : ¬ ¬ x.2.1 - 1 = n) (h3 : ¬ x.1 < e) : cFollowsAt e n i (l.drop k) = cFollowsAt x.1 x.2.1 (i + 1) (l.drop (k + 1)) := by
  rw [drop_next h]
  show (if cCheck x ≠ 0 then _ else _) = _
  rw [if_neg (by simpa using h1), if_neg (by simp only [not_or]; exact ⟨h2, h3⟩)]
theorem follows_bad {e n i : Int} {l : List DCommit} {k : Nat} {x : DCommit} (h : l[k]? = some x) (h1 : ¬ cCheck x = 0) : cFollowsAt e n i (l.drop k) = (cCheck x, i) := by
  rw [drop_next h]
  show (if cCheck x ≠ 0 then _ else _) = _
  rw [if_pos h1]
theorem follows_order {e n i : Int} {l : List DCommit} {k : Nat} {x : DCommit} (h : l[k]? = some x) (h1 : cCheck x = 0) (h2 : ¬ x.2.1 - 1 = n ∨ x.1 < e) : cFollowsAt e n i (l.drop k) = (15, i) := by
  rw [drop_next h]
  show (if cCheck x ≠ 0 then _ else _) = _
  rw [if_neg (by simpa using h1), if_pos h2]
theorem all_next {α : Type} {l : List α} {k : Nat} {x : α} {p : α → Prop} (h : ∀ o ∈ l.take k, p o) (hx : l[k]? = some x) (hp : p x) : ∀ o ∈ l.take (k + 1), p o := fun o ho => by
  rw [List.take_add_one, hx] at ho
  rcases List.mem_append.1 ho with h1 | h1
  · exact h o h1
  · simp at h1; rw [h1]; exact hp
theorem bcheck_empty {l : List DOp} (h : (l.length : Int) = 0) : batchCheck l = 2 := if_pos (by omega)
theorem bcheck_long {l : List DOp} (h : (8 : Int) < l.length) : batchCheck l = 3 := by unfold batchCheck; rw [if_neg (by omega), if_pos (by omega)]
theorem bcheck_bad {l : List DOp} {k : Nat} {x : DOp} (h0 : ¬ (l.length : Int) = 0) (h1 : ¬ (8 : Int) < l.length) (hx : l[k]? = some x) (h : ¬ opCheck x = 0) : batchCheck l = opCheck x := by
  have hb : ¬ opOk x := fun e => h (opCheck_good e)
  unfold batchCheck
  rw [if_neg (by omega), if_neg (by omega), if_neg, opCheck_bad hb]
  exact fun e => hb (e x (List.mem_of_getElem? hx))
theorem bcheck_good {l : List DOp} {k : Nat} (h0 : ¬ (l.length : Int) = 0) (h1 : ¬ (8 : Int) < l.length) (h : ∀ o ∈ l.take k, opOk o) (hk : ¬ (k : Int) < l.length) : batchCheck l = 0 := by
  rw [List.take_of_length_le (by omega)] at h
  unfold batchCheck
  rw [if_neg (by omega), if_neg (by omega), if_pos h]
theorem clone_nil {m : Mem} {A : Option Addr} {c : Nat} {l : List DOp} (h : Rd (.sl TOp) m [.slice A l.length c] l) (hA : A = none) : l = [] := by
  subst hA
  obtain ⟨A', c', h1, _, _, h4⟩ := h
  rcases h4 with h4 | ⟨g, off, all, k1, _⟩
  · exact List.eq_nil_of_length_eq_zero h4
  · simp only [List.cons.injEq, Value.slice.injEq, and_true] at h1
    rw [← h1.1] at k1; cases k1
theorem take_one {α : Type} {l : List α} {k : Nat} {x : α} (h : l[k]? = some x) : l.take (k + 1) = l.take k ++ [x] := by rw [List.take_add_one, h]; rfl
theorem fnOk127 : fnOk Tryz.prog 127 = true := by kernel_rfl
theorem fnOk49 : fnOk Tryz.prog 49 = true := by kernel_rfl
theorem fnOk57 : fnOk Tryz.prog 57 = true := by kernel_rfl
theorem fnOk92 : fnOk Tryz.prog 92 = true := by kernel_rfl
theorem fnOk93 : fnOk Tryz.prog 93 = true := by kernel_rfl
theorem teq95 (a0 : Int) (a1 : Int) : plainS Tryz.prog 95 [.int .i64 a0, .int .i64 a1] = true := by kernel_rfl
theorem tk24 : tk Tryz.prog 24 = some none := by kernel_rfl
theorem tk3 : tk Tryz.prog 3 = some none := by kernel_rfl
theorem tk34 : tk Tryz.prog 34 = some none := by kernel_rfl
theorem tk36 : tk Tryz.prog 36 = some (some 3) := by kernel_rfl
theorem tk95 : tk Tryz.prog 95 = some (some 2) := by kernel_rfl
theorem tsl27 : tsl Tryz.prog 27 = some (36, 3, 40) := by kernel_rfl
theorem tst36 : tst Tryz.prog 36 = some [(0, 1), (1, 1), (2, 1)] := by kernel_rfl
theorem tst95 : tst Tryz.prog 95 = some [(0, 1), (1, 1)] := by kernel_rfl
theorem tz36 : tz Tryz.prog 36 = some [.int .i64 0, .int .i64 0, .slice none 0 0] := by kernel_rfl
theorem tz95 : tz Tryz.prog 95 = some [.int .i64 0, .int .i64 0] := by kernel_rfl
theorem bCheck_ok (W : World) {v0 : Value} {d0 : List DOp} (h0 : Rd (.sl TOp) (wm W) [v0] d0) : CallR Tryz.prog 93 [v0] W (mnil) (fun v m' => v = .int .i64 (batchCheck d0)) := by
  obtain ⟨A0, c0, rfl, l0, k0⟩ := h0.slice
  simp only [maxLen] at k0
  refine CallR.ofA (n := 26) Tryz.func93 rfl rfl rfl ?_
  refine VC.rs ?_
  refine VO.as ?_
  refine VO.k2 0 2 ?_
  refine VC.seq ?_
  refine VC.block ?_
  refine VC.rs ?_
  refine VO.mv ?_
  refine VO.y rfl (.lenS rfl tsl34) ?_
  refine VO.y rfl (.eql rfl rfl) ?_
  refine VO.as ?_
  refine VO.k3 0 2 6 ?_
  refine VC.cond rfl (fun hc1 => ?_) (fun hc1 => ?_)
  · -- T
    refine VC.rs ?_
    refine VO.as ?_
    refine VO.kp [0] [(0, wm W)] ?_
    refine VO.k3 0 2 6 ?_
    refine VC.ret ?_
    refine outBR ?_
    refine outR ?_
    refine ⟨_, _, res_run (rs := [.tmp 2]) rfl (.tmp rfl .nil), fun W_ hI => out_of (l := []) hI [] rfl rfl (mle_refl _) (fun hS_ => ?_)⟩
    dsimp only [packV]
    all_goals (first | rfl | (congr 1; first | exact (bcheck_empty ‹_›).symm | exact (bcheck_long ‹_›).symm | exact (bcheck_bad ‹_› ‹_› ‹d0[k]? = some _› ‹_›).symm | exact (bcheck_good ‹¬ (d0.length : Int) = 0› ‹¬ (8 : Int) < d0.length› ha ‹_›).symm))
  · -- F
    refine VC.rs ?_
    refine VO.mv ?_
    refine VO.y rfl (.lenS rfl tsl34) ?_
    refine VO.y rfl (.gtr rfl rfl) ?_
    refine VO.as ?_
    refine VO.kp [0] [(0, wm W)] ?_
    refine VO.k4 0 2 6 10 ?_
    refine VC.cond rfl (fun hc2 => ?_) (fun hc2 => ?_)
    · -- FT
      refine VC.rs ?_
      refine VO.as ?_
      refine VO.k4 0 2 6 10 ?_
      refine VC.ret ?_
      refine outBR ?_
      refine outR ?_
      refine ⟨_, _, res_run (rs := [.tmp 2]) rfl (.tmp rfl .nil), fun W_ hI => out_of (l := []) hI [] rfl rfl (mle_refl _) (fun hS_ => ?_)⟩
      dsimp only [packV]
      all_goals (first | rfl | (congr 1; first | exact (bcheck_empty ‹_›).symm | exact (bcheck_long ‹_›).symm | exact (bcheck_bad ‹_› ‹_› ‹d0[k]? = some _› ‹_›).symm | exact (bcheck_good ‹¬ (d0.length : Int) = 0› ‹¬ (8 : Int) < d0.length› ha ‹_›).symm))
    · -- FF
      refine VC.skip ?_
      refine outBN ?_
      refine outN ?_
      refine VC.seq ?_
      refine VC.rs ?_
      refine VO.mv ?_
      refine VO.y rfl (.lenS rfl tsl34) ?_
      refine VO.mv ?_
      refine VO.k7 0 2 6 10 14 15 16 ?_
      refine VC.block ?_
      refine VC.loop (G := Nat) (fun k => [(16, Value.int .i64 (((k : Nat) : Int))), (0, Value.slice A0 (d0.length) (c0)), (6, Value.bool (decide (((d0.length : Nat) : Int) = 0))), (10, Value.bool (decide (8 < ((d0.length : Nat) : Int)))), (14, Value.slice A0 (d0.length) (c0)), (15, Value.int .i64 (((d0.length : Nat) : Int)))]) (fun k => [(0, wm W)]) (fun k => (k ≤ d0.length) ∧ (∀ o ∈ d0.take k, opOk o)) (fun k => d0.length - k) 0 (⟨by omega, by simp⟩) ⟨⟨rfl, rfl, rfl, rfl, rfl, rfl, trivial⟩, fun _ h => h.sub [0]⟩ ?_
      rintro k ⟨hk, ha⟩
      refine VC.rs ?_
      refine VO.y rfl (.lss rfl rfl) ?_
      refine VO.k7 0 6 10 14 15 16 17 ?_
      refine VC.seq ?_
      refine VC.cond rfl (fun hc3 => ?_) (fun hc3 => ?_)
      · -- FFT
        refine VC.skip ?_
        refine outN ?_
        refine VC.seq ?_
        refine VC.block ?_
        refine VC.rs ?_
        obtain ⟨x4, hx4⟩ : ∃ z_, (d0)[k]? = some z_ := ⟨_, List.getElem?_eq_getElem bd⟩
        obtain ⟨gg4, oo4, ec4, ea4, hce4, hre4⟩ := h0.elem hx4
        cases ea4
        obtain ⟨rfl, q4_1, q4_2⟩ := open_Op (x0 := x4.1) (x1 := x4.2.1) (x2 := x4.2.2) hre4
        simp only [maxLen] at q4_1
        simp only [maxLen] at q4_2
        refine VO.y rfl (.ixI k rfl rfl tsl34 rfl bd) ?_
        refine VO.y rfl (.ldA 0 rfl tk64 rfl hce4) ?_
        refine VO.alloc 106 rfl tz64 (fun g5 => ?_)
        refine VO.store (k := 3) (c' := [Value.bool x4.1, str (x4.2.1), str (x4.2.2)]) 106 rfl rfl (.inl tk64) rfl rfl rfl rfl rfl ?_
        refine VO.kp [106, 0] [(106, mone g5 (.cells [Value.bool x4.1, str (x4.2.1), str (x4.2.2)].toArray 64 (0, 0))), (0, wm W)] ?_
        refine VO.k8 0 4 6 10 14 15 16 17 ?_
        refine VC.rs ?_
        refine VO.y rfl (.ldA 106 rfl tk64 rfl (cellsAt_one rfl rfl)) ?_
        refine VO.callN 107 rfl fnOk57 rfl (fun W hW => opCheck_ok W (Rd.mono hre4 (hW.at (i := 0) rfl))) (fun v7 m7 hv7 => ?_)
        subst hv7
        refine VO.as ?_
        refine VO.k9 0 4 5 6 10 14 15 16 17 ?_
        refine VC.rs ?_
        refine VO.mv ?_
        refine VO.y rfl (.neq rfl rfl) ?_
        refine VO.k10 0 4 5 6 10 14 15 16 17 23 ?_
        refine VC.cond rfl (fun hc8 => ?_) (fun hc8 => ?_)
        · -- FFTT
          refine VC.rs ?_
          refine VO.mv ?_
          refine VO.as ?_
          refine VO.kp [106, 0] [(106, mone g5 (.cells [Value.bool x4.1, str (x4.2.1), str (x4.2.2)].toArray 64 (0, 0))), (0, wm W)] ?_
          refine VO.k11 0 2 4 5 6 10 14 15 16 17 23 ?_
          refine VC.ret ?_
          refine outBR ?_
          refine outR ?_
          refine outR ?_
          refine outBR ?_
          refine outR ?_
          refine ⟨_, _, res_run (rs := [.tmp 2]) rfl (.tmp rfl .nil), fun W_ hI => out_of (l := []) hI [] rfl rfl (mle_refl _) (fun hS_ => ?_)⟩
          dsimp only [packV]
          all_goals (first | rfl | (congr 1; first | exact (bcheck_empty ‹_›).symm | exact (bcheck_long ‹_›).symm | exact (bcheck_bad ‹_› ‹_› ‹d0[k]? = some _› ‹_›).symm | exact (bcheck_good ‹¬ (d0.length : Int) = 0› ‹¬ (8 : Int) < d0.length› ha ‹_›).symm))
        · -- FFTF
          refine VC.skip ?_
          refine outBN ?_
          refine outN ?_
          refine VC.reg ?_
          refine VO.y rfl (.add (c := ((k + 1 : Nat) : Int)) rfl rfl (by omega) ⟨bd, bd⟩) ?_
          refine VO.mv ?_
          refine VO.kp [106, 0] [(106, mone g5 (.cells [Value.bool x4.1, str (x4.2.1), str (x4.2.2)].toArray 64 (0, 0))), (0, wm W)] ?_
          refine VO.k10 0 4 5 6 10 14 15 16 17 23 ?_
          exact outN ⟨k + 1, ⟨by omega, by exact all_next ha ‹d0[k]? = some _› (opOk_of (Decidable.not_not.1 ‹¬ ¬ _›))⟩, bd, ⟨⟨rfl, rfl, rfl, rfl, rfl, rfl, trivial⟩, fun _ h => Inv.sub h [0]⟩⟩
      · -- FFF
        refine VC.exit ?_
        refine outE ?_
        refine outE ?_
        refine outBB ?_
        refine outN ?_
        refine VC.rs ?_
        refine VO.as ?_
        refine VO.kp [0] [(0, wm W)] ?_
        refine VO.k8 0 2 6 10 14 15 16 17 ?_
        refine VC.ret ?_
        refine ⟨_, _, res_run (rs := [.tmp 2]) rfl (.tmp rfl .nil), fun W_ hI => out_of (l := []) hI [] rfl rfl (mle_refl _) (fun hS_ => ?_)⟩
        dsimp only [packV]
        all_goals (first | rfl | (congr 1; first | exact (bcheck_empty ‹_›).symm | exact (bcheck_long ‹_›).symm | exact (bcheck_bad ‹_› ‹_› ‹d0[k]? = some _› ‹_›).symm | exact (bcheck_good ‹¬ (d0.length : Int) = 0› ‹¬ (8 : Int) < d0.length› ha ‹_›).symm))
theorem cCheck_ok_ (W : World) {v0 : List Value} {d0 : DCommit} (h0 : Rd TCommit (wm W) v0 d0) : CallR Tryz.prog 49 [.agg v0.toArray] W (mnil) (fun v m' => v = .int .i64 (cCheck d0)) := by
  obtain ⟨p0_A2, p0_c2, rfl, p0_0, p0_1, p0_2⟩ := open_Commit (x0 := d0.1) (x1 := d0.2.1) (x2 := d0.2.2) h0
  simp only [inK] at p0_0
  simp only [inK] at p0_1
  have p0_r2 := Rd.room p0_2
  refine CallR.ofA (n := 16) Tryz.func49 rfl rfl rfl ?_
  refine VC.rs ?_
  refine VO.box (cs := [Value.int .i64 (d0.1), Value.int .i64 (d0.2.1), Value.slice p0_A2 (d0.2.2.length) (p0_c2)]) 102 rfl rfl rfl (fun g1 => ?_)
  refine VO.as ?_
  refine VO.k3 0 1 2 ?_
  refine VC.seq ?_
  refine VC.rs ?_
  refine VO.y rfl (.fa rfl tst36 rfl) ?_
  refine VO.y rfl (.ld1 102 rfl tk3 rfl (cellsAt_one rfl rfl)) ?_
  refine VO.callN 103 rfl fnOk92 rfl (fun W hW => within_ok W d0.1 bdk) (fun v3 m3 hv3 => ?_)
  subst hv3
  refine VO.y rfl (.notD rfl) ?_
  refine VO.mv ?_
  refine VO.dec (t := 7) rfl (fun hc4 => ?_) (fun hc4 => ?_)
  · -- T
    refine VO.gN ?_
    refine VO.gN ?_
    refine VO.gN ?_
    refine VO.gN ?_
    refine VO.y rfl (.pT rfl rfl) ?_
    refine VO.k4 0 1 2 12 ?_
    refine VC.condT rfl ?_
    refine VC.rs ?_
    refine VO.as ?_
    refine VO.kp [102, 0] [(102, mone g1 (.cells [Value.int .i64 (d0.1), Value.int .i64 (d0.2.1), Value.slice p0_A2 (d0.2.2.length) (p0_c2)].toArray 36 (0, 0))), (0, wm W)] ?_
    refine VO.k4 0 1 2 12 ?_
    refine VC.ret ?_
    refine outR ?_
    refine ⟨_, _, res_run (rs := [.tmp 2]) rfl (.tmp rfl .nil), fun W_ hI => out_of (l := []) hI [] rfl rfl (mle_refl _) (fun hS_ => ?_)⟩
    dsimp only [packV]
    all_goals (first | rfl | (unfold cCheck; congr 1; split <;> (try split) <;> first | rfl | omega))
  · -- F
    refine VO.gy rfl ⟨_, rfl, rfl⟩ (.fa rfl tst36 rfl) ?_
    refine VO.gy rfl ⟨_, rfl, rfl⟩ (.ld1 102 rfl tk3 rfl (cellsAt_one rfl rfl)) ?_
    refine VO.gcallN 105 rfl ⟨_, rfl, rfl⟩ fnOk92 rfl (fun W hW => within_ok W d0.2.1 bdk) (fun v5 m5 hv5 => ?_)
    subst hv5
    refine VO.gy rfl ⟨_, rfl, rfl⟩ (.notD rfl) ?_
    refine VO.y rfl (.pF rfl rfl) ?_
    refine VO.k4 0 1 2 12 ?_
    refine VC.cond rfl (fun hc6 => ?_) (fun hc6 => ?_)
    · -- FT
      refine VC.rs ?_
      refine VO.as ?_
      refine VO.kp [102, 0] [(102, mone g1 (.cells [Value.int .i64 (d0.1), Value.int .i64 (d0.2.1), Value.slice p0_A2 (d0.2.2.length) (p0_c2)].toArray 36 (0, 0))), (0, wm W)] ?_
      refine VO.k4 0 1 2 12 ?_
      refine VC.ret ?_
      refine outR ?_
      refine ⟨_, _, res_run (rs := [.tmp 2]) rfl (.tmp rfl .nil), fun W_ hI => out_of (l := []) hI [] rfl rfl (mle_refl _) (fun hS_ => ?_)⟩
      dsimp only [packV]
      all_goals (first | rfl | (unfold cCheck; congr 1; split <;> (try split) <;> first | rfl | omega))
    · -- FF
      refine VC.skip ?_
      refine outN ?_
      refine VC.rs ?_
      refine VO.y rfl (.fa rfl tst36 rfl) ?_
      refine VO.y rfl (.ld1 102 rfl tk34 rfl (cellsAt_one rfl rfl)) ?_
      refine VO.callN 107 rfl fnOk93 rfl (fun W hW => bCheck_ok W (Rd.mono p0_2 (hW.at (i := 0) rfl))) (fun v7 m7 hv7 => ?_)
      subst hv7
      have hfa8 := batchCheck_range d0.2.2
      refine VO.as ?_
      refine VO.kp [102, 0] [(102, mone g1 (.cells [Value.int .i64 (d0.1), Value.int .i64 (d0.2.1), Value.slice p0_A2 (d0.2.2.length) (p0_c2)].toArray 36 (0, 0))), (0, wm W)] ?_
      refine VO.k4 0 1 2 12 ?_
      refine VC.ret ?_
      refine ⟨_, _, res_run (rs := [.tmp 2]) rfl (.tmp rfl .nil), fun W_ hI => out_of (l := []) hI [] rfl rfl (mle_refl _) (fun hS_ => ?_)⟩
      dsimp only [packV]
      all_goals (first | rfl | (unfold cCheck; congr 1; split <;> (try split) <;> first | rfl | omega))
theorem fin1_follows_ok {P : Prop} (h : P := by first | omega | (simp only [List.length_append, List.length_nil, List.length_cons, List.length_take, List.length_drop] at *; omega) | (have := cCheck_ok ‹cCheck _ = 0›; omega)) : P := h
theorem follows_ok (W : World) (d0 : Int) (h0 : inK .i64 d0) (d1 : Int) (h1 : inK .i64 d1) {v2 : Value} {d2 : List DCommit} (h2 : Rd (.sl TCommit) (wm W) [v2] d2) : CallR Tryz.prog 48 [.int .i64 d0, .int .i64 d1, v2] W (mnil) (fun v m' => ∃ (s0 : List Value), v = .agg s0.toArray ∧ Ow TFault m' s0 (cFollows d0 d1 d2)) := by
  have h0' := h0; simp only [inK] at h0'
  have h1' := h1; simp only [inK] at h1'
  obtain ⟨A2, c2, rfl, l2, k2⟩ := h2.slice
  simp only [maxLen] at k2
  refine CallR.ofA (n := 49) Tryz.func48 rfl rfl rfl ?_
  refine VC.rs ?_
  refine VO.alloc 102 rfl tz95 (fun g1 => ?_)
  refine VO.k4 0 1 2 6 ?_
  refine VC.seq ?_
  refine VC.rs ?_
  refine VO.mv ?_
  refine VO.y rfl (.lenS rfl tsl27) ?_
  refine VO.mv ?_
  refine VO.k7 0 1 2 6 10 11 12 ?_
  refine VC.block ?_
  refine VC.loop (G := Nat × Int × Int) (fun g => [(0, Value.int .i64 ((g.2.1))), (1, Value.int .i64 ((g.2.2))), (12, Value.int .i64 ((((g.1) : Nat) : Int))), (2, Value.slice A2 (d2.length) (c2)), (6, Value.pointer (some ⟨g1, 0, none⟩)), (10, Value.slice A2 (d2.length) (c2)), (11, Value.int .i64 (((d2.length : Nat) : Int)))]) (fun g => [(102, mone g1 (.cells [Value.int .i64 (0), Value.int .i64 (0)].toArray 95 (0, 0))), (0, wm W)]) (fun g => ((g.1) ≤ d2.length) ∧ (cFollows d0 d1 d2 = cFollowsAt (g.2.1) (g.2.2) (g.1) (d2.drop (g.1)))) (fun g => d2.length - (g.1)) (0, d0, d1) (⟨by omega, by rfl⟩) ⟨⟨rfl, rfl, rfl, rfl, rfl, rfl, rfl, trivial⟩, fun _ h => h.sub [102, 0]⟩ ?_
  rintro ⟨k, e, nn⟩ ⟨hk, hf⟩
  replace hk : k ≤ d2.length := hk
  replace hf : cFollows d0 d1 d2 = cFollowsAt e nn k (d2.drop k) := hf
  show VC _ _ _ _ _ [(0, Value.int .i64 (e)), (1, Value.int .i64 (nn)), (12, Value.int .i64 (((k : Nat) : Int))), (2, Value.slice A2 (d2.length) (c2)), (6, Value.pointer (some ⟨g1, 0, none⟩)), (10, Value.slice A2 (d2.length) (c2)), (11, Value.int .i64 (((d2.length : Nat) : Int)))] [(102, mone g1 (.cells [Value.int .i64 (0), Value.int .i64 (0)].toArray 95 (0, 0))), (0, wm W)]
  refine VC.rs ?_
  refine VO.y rfl (.lss rfl rfl) ?_
  refine VO.kp [102, 0] [(102, mone g1 (.cells [Value.int .i64 (0), Value.int .i64 (0)].toArray 95 (0, 0))), (0, wm W)] ?_
  refine VO.k8 0 1 2 6 10 11 12 13 ?_
  refine VC.seq ?_
  refine VC.cond rfl (fun hc3 => ?_) (fun hc3 => ?_)
  · -- T
    refine VC.skip ?_
    refine outN ?_
    refine VC.seq ?_
    refine VC.block ?_
    refine VC.rs ?_
    refine VO.mv ?_
    obtain ⟨x4, hx4⟩ : ∃ z_, (d2)[k]? = some z_ := ⟨_, List.getElem?_eq_getElem (by exact fin1_follows_ok)⟩
    obtain ⟨gg4, oo4, ec4, ea4, hce4, hre4⟩ := h2.elem hx4
    cases ea4
    obtain ⟨q4_A2, q4_c2, rfl, q4_0, q4_1, q4_2⟩ := open_Commit (x0 := x4.1) (x1 := x4.2.1) (x2 := x4.2.2) hre4
    simp only [inK] at q4_0
    simp only [inK] at q4_1
    have q4_r2 := Rd.room q4_2
    refine VO.y rfl (.ixI k rfl rfl tsl27 rfl (by exact fin1_follows_ok)) ?_
    refine VO.y rfl (.ldA 0 rfl tk36 rfl hce4) ?_
    refine VO.alloc 106 rfl tz36 (fun g5 => ?_)
    refine VO.as ?_
    refine VO.store (k := 3) (c' := [Value.int .i64 (x4.1), Value.int .i64 (x4.2.1), Value.slice q4_A2 (x4.2.2.length) (q4_c2)]) 106 rfl rfl (.inl tk36) rfl rfl rfl rfl rfl ?_
    refine VO.k10 0 1 2 6 7 8 10 11 12 13 ?_
    refine VC.rs ?_
    refine VO.y rfl (.ldA 106 rfl tk36 rfl (cellsAt_one rfl rfl)) ?_
    refine VO.callN 107 rfl fnOk49 rfl (fun W hW => cCheck_ok_ W (Rd.mono hre4 (hW.at (i := 0) rfl))) (fun v7 m7 hv7 => ?_)
    subst hv7
    have hfa8 := cCheck_range x4
    refine VO.mv ?_
    refine VO.y rfl (.bst (cs := [Value.int .i64 (cCheck x4), Value.int .i64 (((k : Nat) : Int))]) rfl tst95 tz95 rfl) ?_
    refine VO.alloc 110 rfl tz95 (fun g9 => ?_)
    refine VO.store (k := 2) (c' := [Value.int .i64 (cCheck x4), Value.int .i64 (((k : Nat) : Int))]) 110 rfl rfl (.inl tk95) rfl rfl rfl rfl rfl ?_
    refine VO.k11 0 1 2 6 7 8 9 10 11 12 13 ?_
    refine VC.seq ?_
    refine VC.rs ?_
    refine VO.y rfl (.fa rfl tst95 rfl) ?_
    refine VO.y rfl (.ld1 110 rfl tk24 rfl (cellsAt_one rfl rfl)) ?_
    refine VO.y rfl (.eql rfl rfl) ?_
    refine VO.mv ?_
    refine VO.dec (t := 24) rfl (fun hc11 => ?_) (fun hc11 => ?_)
    · -- TT
      refine VO.gy rfl ⟨_, rfl, rfl⟩ (.fa rfl tst36 rfl) ?_
      refine VO.gy rfl ⟨_, rfl, rfl⟩ (.ld1 106 rfl tk3 rfl (cellsAt_one rfl rfl)) ?_
      refine VO.gy rfl ⟨_, rfl, rfl⟩ (.sub rfl rfl rfl ⟨by exact fin1_follows_ok, by exact fin1_follows_ok⟩) ?_
      refine VO.gy rfl ⟨_, rfl, rfl⟩ (.mv rfl) ?_
      refine VO.gy rfl ⟨_, rfl, rfl⟩ (.neq rfl rfl) ?_
      refine VO.gy rfl ⟨_, rfl, rfl⟩ (.mv rfl) ?_
      refine VO.dec (t := 30) rfl (fun hc12 => ?_) (fun hc12 => ?_)
      · -- TTT
        refine VO.gN ?_
        refine VO.gN ?_
        refine VO.gN ?_
        refine VO.gN ?_
        refine VO.gy rfl ⟨_, rfl, rfl⟩ (.pT rfl rfl) ?_
        refine VO.y rfl (.pT rfl rfl) ?_
        refine VO.kp [110, 106, 102, 0] [(110, mone g9 (.cells [Value.int .i64 (cCheck x4), Value.int .i64 (((k : Nat) : Int))].toArray 95 (0, 0))), (106, mone g5 (.cells [Value.int .i64 (x4.1), Value.int .i64 (x4.2.1), Value.slice q4_A2 (x4.2.2.length) (q4_c2)].toArray 36 (0, 0))), (102, mone g1 (.cells [Value.int .i64 (0), Value.int .i64 (0)].toArray 95 (0, 0))), (0, wm W)] ?_
        refine VO.k12 0 1 2 6 7 8 9 10 11 12 13 36 ?_
        refine VC.condT rfl ?_
        refine VC.reg ?_
        refine VO.y rfl (.fa rfl tst95 rfl) ?_
        refine VO.store (k := 1) (c' := [Value.int .i64 (15), Value.int .i64 (((k : Nat) : Int))]) 110 rfl rfl (.inr ⟨tk24, rfl⟩) rfl rfl rfl rfl rfl ?_
        refine VO.k12 0 1 2 6 7 8 9 10 11 12 13 36 ?_
        refine outN ?_
        refine VC.seq ?_
        refine VC.rs ?_
        refine VO.y rfl (.ldA 110 rfl tk95 rfl (cellsAt_one rfl rfl)) ?_
        refine VO.mv ?_
        refine VO.y rfl (.bst (cs := [Value.int .i64 (0), Value.int .i64 (((k : Nat) : Int))]) rfl tst95 tz95 rfl) ?_
        refine VO.y rfl (.stneq (p := 15 = 0 ∧ ((k : Nat) : Int) = ((k : Nat) : Int)) rfl rfl (teq95 15 ((k : Nat) : Int)) (teq95 0 ((k : Nat) : Int)) (by simp [ceq, ba_toList])) ?_
        refine VO.k13 0 1 2 6 7 8 9 10 11 12 13 36 41 ?_
        refine VC.cond rfl (fun hc13 => ?_) (fun hc13 => ?_)
        · -- TTTT
          refine VC.rs ?_
          refine VO.y rfl (.ldA 110 rfl tk95 rfl (cellsAt_one rfl rfl)) ?_
          refine VO.store (k := 2) (c' := [Value.int .i64 (15), Value.int .i64 (((k : Nat) : Int))]) 102 rfl rfl (.inl tk95) rfl rfl rfl rfl rfl ?_
          refine VO.kp [110, 106, 102, 0] [(110, mone g9 (.cells [Value.int .i64 (15), Value.int .i64 (((k : Nat) : Int))].toArray 95 (0, 0))), (106, mone g5 (.cells [Value.int .i64 (x4.1), Value.int .i64 (x4.2.1), Value.slice q4_A2 (x4.2.2.length) (q4_c2)].toArray 36 (0, 0))), (102, mone g1 (.cells [Value.int .i64 (15), Value.int .i64 (((k : Nat) : Int))].toArray 95 (0, 0))), (0, wm W)] ?_
          refine VO.k13 0 1 2 6 7 8 9 10 11 12 13 36 41 ?_
          refine VC.ret ?_
          refine outR ?_
          refine outBR ?_
          refine outR ?_
          refine outR ?_
          refine outBR ?_
          refine outR ?_
          refine ⟨_, _, res_run (rs := [.cell 6 95]) rfl (.agg 102 rfl tk95 rfl ⟨_, _, _, mone_self _ _, Nat.le_of_ble_eq_true rfl, rfl⟩ .nil), fun W_ hI => out_of (l := []) hI [] rfl rfl (mle_refl _) (fun hS_ => ?_)⟩
          dsimp only [packV]
          have he0 : (cFollows d0 d1 d2 : Ty.Den TFault) = (15, ((k : Nat) : Int)) := by first | rfl | (first | (rw [hf, List.drop_of_length_le (by omega)]; rfl) | (rw [hf, follows_bad ‹d2[k]? = some _› (by first | assumption | omega)]) | (rw [hf, follows_order ‹d2[k]? = some _› (by assumption) (by omega)]) | (exfalso; omega))
          refine ⟨[Value.int .i64 (15), Value.int .i64 (((k : Nat) : Int))], ?_, ?_⟩
          rotate_left
          · rw [he0]; exact (Ow.of (m := mnil) rfl (mk_Fault (m := _) 15 ((k : Nat) : Int) (by simp only [inK]; (exact fin1_follows_ok)) (by simp only [inK]; (exact fin1_follows_ok))))
          all_goals (first | rfl | (rfl))
        · -- TTTF
          refine VC.skip ?_
          refine outN ?_
          refine VC.regD _ 5 [(0, true), (1, true), (2, true), (3, true), (4, true)] follows (by kernel_rfl) (fun _ h => h.sub [110, 106, 102, 0]) ?_
          refine VD.y rfl rfl (.inl rfl) (.fa rfl tst36 rfl) ?_
          refine VD.y rfl rfl (.inl rfl) (.ld1 106 rfl tk3 rfl (cellsAt_one rfl rfl)) ?_
          refine VD.y rfl rfl (.inl rfl) (.fa rfl tst36 rfl) ?_
          refine VD.y rfl rfl (.inl rfl) (.ld1 106 rfl tk3 rfl (cellsAt_one rfl rfl)) ?_
          refine VD.y rfl rfl (.inl rfl) (.as rfl) ?_
          refine VD.nil rfl ?_ rfl
          refine VO.as ?_
          refine VO.kp [110, 106, 102, 0] [(110, mone g9 (.cells [Value.int .i64 (15), Value.int .i64 (((k : Nat) : Int))].toArray 95 (0, 0))), (106, mone g5 (.cells [Value.int .i64 (x4.1), Value.int .i64 (x4.2.1), Value.slice q4_A2 (x4.2.2.length) (q4_c2)].toArray 36 (0, 0))), (102, mone g1 (.cells [Value.int .i64 (0), Value.int .i64 (0)].toArray 95 (0, 0))), (0, wm W)] ?_
          refine VO.k13 0 1 2 6 7 8 9 10 11 12 13 36 41 ?_
          refine outBN ?_
          refine outN ?_
          refine VC.reg ?_
          refine VO.y rfl (.add (c := ((k + 1 : Nat) : Int)) rfl rfl (by omega) ⟨by exact fin1_follows_ok, by exact fin1_follows_ok⟩) ?_
          refine VO.mv ?_
          refine VO.k13 0 1 2 6 7 8 9 10 11 12 13 36 41 ?_
          exact outN ⟨⟨k + 1, x4.1, x4.2.1⟩, ⟨by omega, by first | (exfalso; omega) | (rw [hf, follows_step ‹d2[k]? = some _› (by first | assumption | omega) (by omega) (by omega)]; rfl)⟩, by exact fin1_follows_ok, ⟨⟨rfl, rfl, rfl, rfl, rfl, rfl, rfl, trivial⟩, fun _ h => Inv.sub h [102, 0]⟩⟩
      · -- TTF
        refine VO.gy rfl ⟨_, rfl, rfl⟩ (.fa rfl tst36 rfl) ?_
        refine VO.gy rfl ⟨_, rfl, rfl⟩ (.ld1 106 rfl tk3 rfl (cellsAt_one rfl rfl)) ?_
        refine VO.gy rfl ⟨_, rfl, rfl⟩ (.mv rfl) ?_
        refine VO.gy rfl ⟨_, rfl, rfl⟩ (.lss rfl rfl) ?_
        refine VO.gy rfl ⟨_, rfl, rfl⟩ (.pF rfl rfl) ?_
        refine VO.y rfl (.pT rfl rfl) ?_
        refine VO.kp [110, 106, 102, 0] [(110, mone g9 (.cells [Value.int .i64 (cCheck x4), Value.int .i64 (((k : Nat) : Int))].toArray 95 (0, 0))), (106, mone g5 (.cells [Value.int .i64 (x4.1), Value.int .i64 (x4.2.1), Value.slice q4_A2 (x4.2.2.length) (q4_c2)].toArray 36 (0, 0))), (102, mone g1 (.cells [Value.int .i64 (0), Value.int .i64 (0)].toArray 95 (0, 0))), (0, wm W)] ?_
        refine VO.k12 0 1 2 6 7 8 9 10 11 12 13 36 ?_
        refine VC.cond rfl (fun hc14 => ?_) (fun hc14 => ?_)
        · -- TTFT
          refine VC.reg ?_
          refine VO.y rfl (.fa rfl tst95 rfl) ?_
          refine VO.store (k := 1) (c' := [Value.int .i64 (15), Value.int .i64 (((k : Nat) : Int))]) 110 rfl rfl (.inr ⟨tk24, rfl⟩) rfl rfl rfl rfl rfl ?_
          refine VO.k12 0 1 2 6 7 8 9 10 11 12 13 36 ?_
          refine outN ?_
          refine VC.seq ?_
          refine VC.rs ?_
          refine VO.y rfl (.ldA 110 rfl tk95 rfl (cellsAt_one rfl rfl)) ?_
          refine VO.mv ?_
          refine VO.y rfl (.bst (cs := [Value.int .i64 (0), Value.int .i64 (((k : Nat) : Int))]) rfl tst95 tz95 rfl) ?_
          refine VO.y rfl (.stneq (p := 15 = 0 ∧ ((k : Nat) : Int) = ((k : Nat) : Int)) rfl rfl (teq95 15 ((k : Nat) : Int)) (teq95 0 ((k : Nat) : Int)) (by simp [ceq, ba_toList])) ?_
          refine VO.k13 0 1 2 6 7 8 9 10 11 12 13 36 41 ?_
          refine VC.cond rfl (fun hc15 => ?_) (fun hc15 => ?_)
          · -- TTFTT
            refine VC.rs ?_
            refine VO.y rfl (.ldA 110 rfl tk95 rfl (cellsAt_one rfl rfl)) ?_
            refine VO.store (k := 2) (c' := [Value.int .i64 (15), Value.int .i64 (((k : Nat) : Int))]) 102 rfl rfl (.inl tk95) rfl rfl rfl rfl rfl ?_
            refine VO.kp [110, 106, 102, 0] [(110, mone g9 (.cells [Value.int .i64 (15), Value.int .i64 (((k : Nat) : Int))].toArray 95 (0, 0))), (106, mone g5 (.cells [Value.int .i64 (x4.1), Value.int .i64 (x4.2.1), Value.slice q4_A2 (x4.2.2.length) (q4_c2)].toArray 36 (0, 0))), (102, mone g1 (.cells [Value.int .i64 (15), Value.int .i64 (((k : Nat) : Int))].toArray 95 (0, 0))), (0, wm W)] ?_
            refine VO.k13 0 1 2 6 7 8 9 10 11 12 13 36 41 ?_
            refine VC.ret ?_
            refine outR ?_
            refine outBR ?_
            refine outR ?_
            refine outR ?_
            refine outBR ?_
            refine outR ?_
            refine ⟨_, _, res_run (rs := [.cell 6 95]) rfl (.agg 102 rfl tk95 rfl ⟨_, _, _, mone_self _ _, Nat.le_of_ble_eq_true rfl, rfl⟩ .nil), fun W_ hI => out_of (l := []) hI [] rfl rfl (mle_refl _) (fun hS_ => ?_)⟩
            dsimp only [packV]
            have he0 : (cFollows d0 d1 d2 : Ty.Den TFault) = (15, ((k : Nat) : Int)) := by first | rfl | (first | (rw [hf, List.drop_of_length_le (by omega)]; rfl) | (rw [hf, follows_bad ‹d2[k]? = some _› (by first | assumption | omega)]) | (rw [hf, follows_order ‹d2[k]? = some _› (by assumption) (by omega)]) | (exfalso; omega))
            refine ⟨[Value.int .i64 (15), Value.int .i64 (((k : Nat) : Int))], ?_, ?_⟩
            rotate_left
            · rw [he0]; exact (Ow.of (m := mnil) rfl (mk_Fault (m := _) 15 ((k : Nat) : Int) (by simp only [inK]; (exact fin1_follows_ok)) (by simp only [inK]; (exact fin1_follows_ok))))
            all_goals (first | rfl | (rfl))
          · -- TTFTF
            refine VC.skip ?_
            refine outN ?_
            refine VC.regD _ 5 [(0, true), (1, true), (2, true), (3, true), (4, true)] follows (by kernel_rfl) (fun _ h => h.sub [110, 106, 102, 0]) ?_
            refine VD.y rfl rfl (.inl rfl) (.fa rfl tst36 rfl) ?_
            refine VD.y rfl rfl (.inl rfl) (.ld1 106 rfl tk3 rfl (cellsAt_one rfl rfl)) ?_
            refine VD.y rfl rfl (.inl rfl) (.fa rfl tst36 rfl) ?_
            refine VD.y rfl rfl (.inl rfl) (.ld1 106 rfl tk3 rfl (cellsAt_one rfl rfl)) ?_
            refine VD.y rfl rfl (.inl rfl) (.as rfl) ?_
            refine VD.nil rfl ?_ rfl
            refine VO.as ?_
            refine VO.kp [110, 106, 102, 0] [(110, mone g9 (.cells [Value.int .i64 (15), Value.int .i64 (((k : Nat) : Int))].toArray 95 (0, 0))), (106, mone g5 (.cells [Value.int .i64 (x4.1), Value.int .i64 (x4.2.1), Value.slice q4_A2 (x4.2.2.length) (q4_c2)].toArray 36 (0, 0))), (102, mone g1 (.cells [Value.int .i64 (0), Value.int .i64 (0)].toArray 95 (0, 0))), (0, wm W)] ?_
            refine VO.k13 0 1 2 6 7 8 9 10 11 12 13 36 41 ?_
            refine outBN ?_
            refine outN ?_
            refine VC.reg ?_
            refine VO.y rfl (.add (c := ((k + 1 : Nat) : Int)) rfl rfl (by omega) ⟨by exact fin1_follows_ok, by exact fin1_follows_ok⟩) ?_
            refine VO.mv ?_
            refine VO.k13 0 1 2 6 7 8 9 10 11 12 13 36 41 ?_
            exact outN ⟨⟨k + 1, x4.1, x4.2.1⟩, ⟨by omega, by first | (exfalso; omega) | (rw [hf, follows_step ‹d2[k]? = some _› (by first | assumption | omega) (by omega) (by omega)]; rfl)⟩, by exact fin1_follows_ok, ⟨⟨rfl, rfl, rfl, rfl, rfl, rfl, rfl, trivial⟩, fun _ h => Inv.sub h [102, 0]⟩⟩
        · -- TTFF
          refine VC.skip ?_
          refine outN ?_
          refine VC.seq ?_
          refine VC.rs ?_
          refine VO.y rfl (.ldA 110 rfl tk95 rfl (cellsAt_one rfl rfl)) ?_
          refine VO.mv ?_
          refine VO.y rfl (.bst (cs := [Value.int .i64 (0), Value.int .i64 (((k : Nat) : Int))]) rfl tst95 tz95 rfl) ?_
          refine VO.y rfl (.stneq (p := (cCheck x4) = 0 ∧ ((k : Nat) : Int) = ((k : Nat) : Int)) rfl rfl (teq95 (cCheck x4) ((k : Nat) : Int)) (teq95 0 ((k : Nat) : Int)) (by simp [ceq, ba_toList])) ?_
          refine VO.k13 0 1 2 6 7 8 9 10 11 12 13 36 41 ?_
          refine VC.cond rfl (fun hc16 => ?_) (fun hc16 => ?_)
          · -- TTFFT
            refine VC.rs ?_
            refine VO.y rfl (.ldA 110 rfl tk95 rfl (cellsAt_one rfl rfl)) ?_
            refine VO.store (k := 2) (c' := [Value.int .i64 (cCheck x4), Value.int .i64 (((k : Nat) : Int))]) 102 rfl rfl (.inl tk95) rfl rfl rfl rfl rfl ?_
            refine VO.k13 0 1 2 6 7 8 9 10 11 12 13 36 41 ?_
            refine VC.ret ?_
            refine outR ?_
            refine outBR ?_
            refine outR ?_
            refine outR ?_
            refine outBR ?_
            refine outR ?_
            refine ⟨_, _, res_run (rs := [.cell 6 95]) rfl (.agg 102 rfl tk95 rfl ⟨_, _, _, mone_self _ _, Nat.le_of_ble_eq_true rfl, rfl⟩ .nil), fun W_ hI => out_of (l := []) hI [] rfl rfl (mle_refl _) (fun hS_ => ?_)⟩
            dsimp only [packV]
            have he0 : (cFollows d0 d1 d2 : Ty.Den TFault) = (cCheck x4, ((k : Nat) : Int)) := by first | rfl | (first | (rw [hf, List.drop_of_length_le (by omega)]; rfl) | (rw [hf, follows_bad ‹d2[k]? = some _› (by first | assumption | omega)]) | (rw [hf, follows_order ‹d2[k]? = some _› (by assumption) (by omega)]) | (exfalso; omega))
            refine ⟨[Value.int .i64 (cCheck x4), Value.int .i64 (((k : Nat) : Int))], ?_, ?_⟩
            rotate_left
            · rw [he0]; exact (Ow.of (m := mnil) rfl (mk_Fault (m := _) (cCheck x4) ((k : Nat) : Int) (by simp only [inK]; (exact fin1_follows_ok)) (by simp only [inK]; (exact fin1_follows_ok))))
            all_goals (first | rfl | (rfl))
          · -- TTFFF
            refine VC.skip ?_
            refine outN ?_
            refine VC.regD _ 5 [(0, true), (1, true), (2, true), (3, true), (4, true)] follows (by kernel_rfl) (fun _ h => h.sub [110, 106, 102, 0]) ?_
            refine VD.y rfl rfl (.inl rfl) (.fa rfl tst36 rfl) ?_
            refine VD.y rfl rfl (.inl rfl) (.ld1 106 rfl tk3 rfl (cellsAt_one rfl rfl)) ?_
            refine VD.y rfl rfl (.inl rfl) (.fa rfl tst36 rfl) ?_
            refine VD.y rfl rfl (.inl rfl) (.ld1 106 rfl tk3 rfl (cellsAt_one rfl rfl)) ?_
            refine VD.y rfl rfl (.inl rfl) (.as rfl) ?_
            refine VD.nil rfl ?_ rfl
            refine VO.as ?_
            refine VO.k13 0 1 2 6 7 8 9 10 11 12 13 36 41 ?_
            refine outBN ?_
            refine outN ?_
            refine VC.reg ?_
            refine VO.y rfl (.add (c := ((k + 1 : Nat) : Int)) rfl rfl (by omega) ⟨by exact fin1_follows_ok, by exact fin1_follows_ok⟩) ?_
            refine VO.mv ?_
            refine VO.kp [110, 106, 102, 0] [(110, mone g9 (.cells [Value.int .i64 (cCheck x4), Value.int .i64 (((k : Nat) : Int))].toArray 95 (0, 0))), (106, mone g5 (.cells [Value.int .i64 (x4.1), Value.int .i64 (x4.2.1), Value.slice q4_A2 (x4.2.2.length) (q4_c2)].toArray 36 (0, 0))), (102, mone g1 (.cells [Value.int .i64 (0), Value.int .i64 (0)].toArray 95 (0, 0))), (0, wm W)] ?_
            refine VO.k13 0 1 2 6 7 8 9 10 11 12 13 36 41 ?_
            exact outN ⟨⟨k + 1, x4.1, x4.2.1⟩, ⟨by omega, by first | (exfalso; omega) | (rw [hf, follows_step ‹d2[k]? = some _› (by first | assumption | omega) (by omega) (by omega)]; rfl)⟩, by exact fin1_follows_ok, ⟨⟨rfl, rfl, rfl, rfl, rfl, rfl, rfl, trivial⟩, fun _ h => Inv.sub h [102, 0]⟩⟩
    · -- TF
      refine VO.gN ?_
      refine VO.gN ?_
      refine VO.gN ?_
      refine VO.gN ?_
      refine VO.gN ?_
      refine VO.gN ?_
      refine VO.gn rfl (.inr ⟨_, rfl, rfl⟩) ?_
      refine VO.gn rfl (.inr ⟨_, rfl, rfl⟩) ?_
      refine VO.gn rfl (.inr ⟨_, rfl, rfl⟩) ?_
      refine VO.gn rfl (.inr ⟨_, rfl, rfl⟩) ?_
      refine VO.gN ?_
      refine VO.y rfl (.pF rfl rfl) ?_
      refine VO.kp [110, 106, 102, 0] [(110, mone g9 (.cells [Value.int .i64 (cCheck x4), Value.int .i64 (((k : Nat) : Int))].toArray 95 (0, 0))), (106, mone g5 (.cells [Value.int .i64 (x4.1), Value.int .i64 (x4.2.1), Value.slice q4_A2 (x4.2.2.length) (q4_c2)].toArray 36 (0, 0))), (102, mone g1 (.cells [Value.int .i64 (0), Value.int .i64 (0)].toArray 95 (0, 0))), (0, wm W)] ?_
      refine VO.k12 0 1 2 6 7 8 9 10 11 12 13 36 ?_
      refine VC.condF rfl ?_
      refine VC.skip ?_
      refine outN ?_
      refine VC.seq ?_
      refine VC.rs ?_
      refine VO.y rfl (.ldA 110 rfl tk95 rfl (cellsAt_one rfl rfl)) ?_
      refine VO.mv ?_
      refine VO.y rfl (.bst (cs := [Value.int .i64 (0), Value.int .i64 (((k : Nat) : Int))]) rfl tst95 tz95 rfl) ?_
      refine VO.y rfl (.stneq (p := (cCheck x4) = 0 ∧ ((k : Nat) : Int) = ((k : Nat) : Int)) rfl rfl (teq95 (cCheck x4) ((k : Nat) : Int)) (teq95 0 ((k : Nat) : Int)) (by simp [ceq, ba_toList])) ?_
      refine VO.k13 0 1 2 6 7 8 9 10 11 12 13 36 41 ?_
      refine VC.cond rfl (fun hc17 => ?_) (fun hc17 => ?_)
      · -- TFT
        refine VC.rs ?_
        refine VO.y rfl (.ldA 110 rfl tk95 rfl (cellsAt_one rfl rfl)) ?_
        refine VO.store (k := 2) (c' := [Value.int .i64 (cCheck x4), Value.int .i64 (((k : Nat) : Int))]) 102 rfl rfl (.inl tk95) rfl rfl rfl rfl rfl ?_
        refine VO.k13 0 1 2 6 7 8 9 10 11 12 13 36 41 ?_
        refine VC.ret ?_
        refine outR ?_
        refine outBR ?_
        refine outR ?_
        refine outR ?_
        refine outBR ?_
        refine outR ?_
        refine ⟨_, _, res_run (rs := [.cell 6 95]) rfl (.agg 102 rfl tk95 rfl ⟨_, _, _, mone_self _ _, Nat.le_of_ble_eq_true rfl, rfl⟩ .nil), fun W_ hI => out_of (l := []) hI [] rfl rfl (mle_refl _) (fun hS_ => ?_)⟩
        dsimp only [packV]
        have he0 : (cFollows d0 d1 d2 : Ty.Den TFault) = (cCheck x4, ((k : Nat) : Int)) := by first | rfl | (first | (rw [hf, List.drop_of_length_le (by omega)]; rfl) | (rw [hf, follows_bad ‹d2[k]? = some _› (by first | assumption | omega)]) | (rw [hf, follows_order ‹d2[k]? = some _› (by assumption) (by omega)]) | (exfalso; omega))
        refine ⟨[Value.int .i64 (cCheck x4), Value.int .i64 (((k : Nat) : Int))], ?_, ?_⟩
        rotate_left
        · rw [he0]; exact (Ow.of (m := mnil) rfl (mk_Fault (m := _) (cCheck x4) ((k : Nat) : Int) (by simp only [inK]; (exact fin1_follows_ok)) (by simp only [inK]; (exact fin1_follows_ok))))
        all_goals (first | rfl | (rfl))
      · -- TFF
        refine VC.skip ?_
        refine outN ?_
        refine VC.regD _ 5 [(0, true), (1, true), (2, true), (3, true), (4, true)] follows (by kernel_rfl) (fun _ h => h.sub [110, 106, 102, 0]) ?_
        refine VD.y rfl rfl (.inl rfl) (.fa rfl tst36 rfl) ?_
        refine VD.y rfl rfl (.inl rfl) (.ld1 106 rfl tk3 rfl (cellsAt_one rfl rfl)) ?_
        refine VD.y rfl rfl (.inl rfl) (.fa rfl tst36 rfl) ?_
        refine VD.y rfl rfl (.inl rfl) (.ld1 106 rfl tk3 rfl (cellsAt_one rfl rfl)) ?_
        refine VD.y rfl rfl (.inl rfl) (.as rfl) ?_
        refine VD.nil rfl ?_ rfl
        refine VO.as ?_
        refine VO.k13 0 1 2 6 7 8 9 10 11 12 13 36 41 ?_
        refine outBN ?_
        refine outN ?_
        refine VC.reg ?_
        refine VO.y rfl (.add (c := ((k + 1 : Nat) : Int)) rfl rfl (by omega) ⟨by exact fin1_follows_ok, by exact fin1_follows_ok⟩) ?_
        refine VO.mv ?_
        refine VO.kp [110, 106, 102, 0] [(110, mone g9 (.cells [Value.int .i64 (cCheck x4), Value.int .i64 (((k : Nat) : Int))].toArray 95 (0, 0))), (106, mone g5 (.cells [Value.int .i64 (x4.1), Value.int .i64 (x4.2.1), Value.slice q4_A2 (x4.2.2.length) (q4_c2)].toArray 36 (0, 0))), (102, mone g1 (.cells [Value.int .i64 (0), Value.int .i64 (0)].toArray 95 (0, 0))), (0, wm W)] ?_
        refine VO.k13 0 1 2 6 7 8 9 10 11 12 13 36 41 ?_
        exact outN ⟨⟨k + 1, x4.1, x4.2.1⟩, ⟨by omega, by first | (exfalso; omega) | (rw [hf, follows_step ‹d2[k]? = some _› (by first | assumption | omega) (by omega) (by omega)]; rfl)⟩, by exact fin1_follows_ok, ⟨⟨rfl, rfl, rfl, rfl, rfl, rfl, rfl, trivial⟩, fun _ h => Inv.sub h [102, 0]⟩⟩
  · -- F
    refine VC.exit ?_
    refine outE ?_
    refine outE ?_
    refine outBB ?_
    refine outN ?_
    refine VC.rs ?_
    refine VO.y rfl (.bst (cs := [Value.int .i64 (0), Value.int .i64 (0)]) rfl tst95 tz95 rfl) ?_
    refine VO.store (k := 2) (c' := [Value.int .i64 (0), Value.int .i64 (0)]) 102 rfl rfl (.inl tk95) rfl rfl rfl rfl rfl ?_
    refine VO.k8 0 1 2 6 10 11 12 13 ?_
    refine VC.ret ?_
    refine ⟨_, _, res_run (rs := [.cell 6 95]) rfl (.agg 102 rfl tk95 rfl ⟨_, _, _, mone_self _ _, Nat.le_of_ble_eq_true rfl, rfl⟩ .nil), fun W_ hI => out_of (l := []) hI [] rfl rfl (mle_refl _) (fun hS_ => ?_)⟩
    dsimp only [packV]
    have he0 : (cFollows d0 d1 d2 : Ty.Den TFault) = (0, 0) := by first | rfl | (first | (rw [hf, List.drop_of_length_le (by omega)]; rfl) | (rw [hf, follows_bad ‹d2[k]? = some _› (by first | assumption | omega)]) | (rw [hf, follows_order ‹d2[k]? = some _› (by assumption) (by omega)]) | (exfalso; omega))
    refine ⟨[Value.int .i64 (0), Value.int .i64 (0)], ?_, ?_⟩
    rotate_left
    · rw [he0]; exact (Ow.of (m := mnil) rfl (mk_Fault (m := _) 0 0 (by simp only [inK]; (exact fin1_follows_ok)) (by simp only [inK]; (exact fin1_follows_ok))))
    all_goals (first | rfl | (rfl))
theorem clone_ok (W : World) {v0 : Value} {d0 : List DOp} (h0 : Rd (.sl TOp) (wm W) [v0] d0) (e0 : d0.length ≤ 3518437208800) : CallR Tryz.prog 127 [v0] W (mnil) (fun v m' => ∃ (s0 : Value), v = s0 ∧ Ow (.sl TOp) m' [s0] (d0)) := by
  obtain ⟨A0, c0, rfl, l0, k0⟩ := h0.slice
  simp only [maxLen] at k0
  refine CallR.ofA (n := 8) Tryz.func127 rfl rfl rfl ?_
  refine VC.rs ?_
  refine VO.as ?_
  refine VO.k2 0 2 ?_
  refine VC.seq ?_
  refine VC.rs ?_
  refine VO.mv ?_
  refine VO.y rfl (.snil rfl rfl Tryz.underlying34) ?_
  refine VO.k3 0 2 4 ?_
  refine VC.cond rfl (fun hc1 => ?_) (fun hc1 => ?_)
  · -- T
    refine VC.rs ?_
    refine VO.as ?_
    refine VO.kp [0] [(0, wm W)] ?_
    refine VO.k3 0 2 4 ?_
    refine VC.ret ?_
    refine outR ?_
    refine ⟨_, _, res_run (rs := [.tmp 2]) rfl (.tmp rfl .nil), fun W_ hI => out_of (l := []) hI [] rfl rfl (mle_refl _) (fun hS_ => ?_)⟩
    dsimp only [packV]
    have he0 : (d0 : Ty.Den (.sl TOp)) = [] := by first | rfl | (exact clone_nil h0 ‹_ = none›)
    refine ⟨Value.slice none (0) (0), ?_, ?_⟩
    rotate_left
    · rw [he0]; exact (Ow.nil _ _)
    all_goals (first | rfl | (simp [*]; done))
  · -- F
    refine VC.skip ?_
    refine outN ?_
    refine VC.rs ?_
    refine VO.bsl (cs := []) 103 rfl rfl tsl34 tz64 rfl rfl (fun g2 => ?_)
    refine VO.mv ?_
    have ho5 : OwnL TOp (mone g2 (.cells [].toArray 64 (0, 0))) mnil (Value.slice (some ⟨g2, 0, none⟩) (0) (0)) [] := OwnL.lit 0 All2c.nil rfl rfl
    obtain ⟨mo4, cs4, hM4, hA4, hC4⟩ := ho5
    obtain ⟨all4, hS4, hR4⟩ := Rd.srcI (P := Tryz.prog) (h0) Tryz.underlying34
    refine VO.app 103 rfl rfl rfl tsl34 tz64 rfl rfl hM4 hA4 (hS4 _ 0 rfl) hR4.nice bdm bd (by decide) (fun v4 m4 hN4 => ?_)
    have ho4 : OwnL TOp m4 mnil v4 (d0) := OwnL.more hC4 hN4 (All2c.mono hR4 fun _ _ h => Rd.flat rfl h _)
    obtain ⟨A4, c4, rfl, l4, k4⟩ := ho4.slice
    simp only [maxLen] at k4
    refine VO.as ?_
    refine VO.kp [103, 0] [(103, m4), (0, wm W)] ?_
    refine VO.k3 0 2 4 ?_
    refine VC.ret ?_
    refine ⟨_, _, res_run (rs := [.tmp 2]) rfl (.tmp rfl .nil), fun W_ hI => out_of (l := [m4]) hI [103] rfl rfl (mle_refl _) (fun hS_ => ?_)⟩
    dsimp only [packV]
    have he0 : (d0 : Ty.Den (.sl TOp)) = d0 := by first | rfl | (exact clone_nil h0 ‹_ = none›)
    refine ⟨Value.slice A4 ((d0).length) (c4), ?_, ?_⟩
    rotate_left
    · rw [he0]; exact (Ow.up (OwnL.ow ho4 rfl) (hS_.1 _ (.head _)))
    all_goals (first | rfl | (simp [*]; done))
theorem cCopy_ok (W : World) {v0 : List Value} {d0 : DCommit} (h0 : Rd TCommit (wm W) v0 d0) (e0 : d0.2.2.length ≤ 3518437208800) : CallR Tryz.prog 88 [.agg v0.toArray] W (mnil) (fun v m' => ∃ (s0 : List Value), v = .agg s0.toArray ∧ Ow TCommit m' s0 (d0)) := by
  obtain ⟨p0_A2, p0_c2, rfl, p0_0, p0_1, p0_2⟩ := open_Commit (x0 := d0.1) (x1 := d0.2.1) (x2 := d0.2.2) h0
  simp only [inK] at p0_0
  simp only [inK] at p0_1
  have p0_r2 := Rd.room p0_2
  refine CallR.ofA (n := 8) Tryz.func88 rfl rfl rfl ?_
  refine VC.rs ?_
  refine VO.box (cs := [Value.int .i64 (d0.1), Value.int .i64 (d0.2.1), Value.slice p0_A2 (d0.2.2.length) (p0_c2)]) 102 rfl rfl rfl (fun g1 => ?_)
  refine VO.alloc 104 rfl tz36 (fun g3 => ?_)
  refine VO.k3 0 1 2 ?_
  refine VC.rs ?_
  refine VO.y rfl (.fa rfl tst36 rfl) ?_
  refine VO.y rfl (.ld1 102 rfl tk34 rfl (cellsAt_one rfl rfl)) ?_
  refine VO.callN 105 rfl fnOk127 rfl (fun W hW => clone_ok W (Rd.mono p0_2 (hW.at (i := 0) rfl)) bd) (fun v5 m5 hv5 => ?_)
  obtain ⟨s5_0, rfl, f5_0⟩ := hv5
  obtain ⟨A5_0, c5_0, eq5_0, l5_0, k5_0⟩ := f5_0.slice
  subst eq5_0
  simp only [maxLen] at k5_0
  refine VO.y rfl (.fa rfl tst36 rfl) ?_
  refine VO.store (k := 1) (c' := [Value.int .i64 (d0.1), Value.int .i64 (d0.2.1), Value.slice A5_0 (d0.2.2.length) (c5_0)]) 102 rfl rfl (.inr ⟨tk34, rfl⟩) rfl rfl rfl rfl rfl ?_
  refine VO.k3 0 1 2 ?_
  refine VC.rs ?_
  refine VO.y rfl (.ldA 102 rfl tk36 rfl (cellsAt_one rfl rfl)) ?_
  refine VO.store (k := 3) (c' := [Value.int .i64 (d0.1), Value.int .i64 (d0.2.1), Value.slice A5_0 (d0.2.2.length) (c5_0)]) 104 rfl rfl (.inl tk36) rfl rfl rfl rfl rfl ?_
  refine VO.kp [105, 104, 102, 0] [(105, m5), (104, mone g3 (.cells [Value.int .i64 (d0.1), Value.int .i64 (d0.2.1), Value.slice A5_0 (d0.2.2.length) (c5_0)].toArray 36 (0, 0))), (102, mone g1 (.cells [Value.int .i64 (d0.1), Value.int .i64 (d0.2.1), Value.slice A5_0 (d0.2.2.length) (c5_0)].toArray 36 (0, 0))), (0, wm W)] ?_
  refine VO.k3 0 1 2 ?_
  refine VC.ret ?_
  refine ⟨_, _, res_run (rs := [.cell 2 36]) rfl (.agg 104 rfl tk36 rfl ⟨_, _, _, mone_self _ _, Nat.le_of_ble_eq_true rfl, rfl⟩ .nil), fun W_ hI => out_of (l := [m5]) hI [105] rfl rfl (mle_refl _) (fun hS_ => ?_)⟩
  dsimp only [packV]
  have he0 : (d0 : Ty.Den TCommit) = d0 := by first | rfl | (simp [*]; done)
  refine ⟨[Value.int .i64 (d0.1), Value.int .i64 (d0.2.1), Value.slice A5_0 (d0.2.2.length) (c5_0)], ?_, ?_⟩
  rotate_left
  · rw [he0]; exact (show Ow TCommit _ _ d0 from (mkO_Commit d0.1 d0.2.1 d0.2.2 hS_ bdk bdk (OwnL.ow (Ow.ownl f5_0 rfl mnil) rfl)))
  all_goals (first | rfl | (simp [*]; done))
def vX (b : Bytes) : Nat := match vread b with
  | some (x, _) => x
  | none => 0
def vN (b : Bytes) : Nat := match vread b with
  | some (_, n) => n
  | none => 0
def vE (b : Bytes) : Int := match vread b with
  | some _ => 0
  | none => 5
def sX (b : Bytes) (m : Int) : Nat := match vsmall b m with
  | some (x, _) => x
  | none => 0
def sN (b : Bytes) (m : Int) : Nat := match vsmall b m with
  | some (_, n) => n
  | none => 0
def sE (b : Bytes) (m : Int) : Int := match vsmall b m with
  | some _ => 0
  | none => 5
theorem bits_add {x a k : Nat} (h : x < 2 ^ k) : x ||| a * 2 ^ k = x + a * 2 ^ k := by
  rw [Nat.or_comm, Nat.mul_comm, ← Nat.two_pow_add_eq_or_of_lt h, Nat.add_comm]
theorem pow7 {k : Nat} (h : k ≤ 9) : 2 ^ (7 * k) ≤ 9223372036854775808 := by
  have : 2 ^ (7 * k) ≤ 2 ^ 63 := Nat.pow_le_pow_right (by decide) (by omega)
  simpa using this
theorem low64 {x k : Nat} (h : x < 2 ^ (7 * k)) (hk : k ≤ 9) : x < 18446744073709551616 := by have := pow7 hk; omega
theorem pow_next (k : Nat) : 2 ^ (7 * (k + 1)) = 128 * 2 ^ (7 * k) := by rw [Nat.mul_add, Nat.pow_add]; omega
theorem nine (c : Nat) (h : c ≤ 1) : c * 9223372036854775808 + 9223372036854775808 ≤ 18446744073709551616 := by omega
/-- a digit is put on top: below the tenth, or the tenth if it is 0 or 1. -/
theorem top_add {x k c : Nat} (h : x < 2 ^ (7 * k)) (hk : k ≤ 9) (hc : ¬ (k = 9 ∧ c > 1)) : x ||| c % 128 * 2 ^ (7 * k) % 18446744073709551616 = x + c % 128 * 2 ^ (7 * k) ∧ x + c % 128 * 2 ^ (7 * k) < 18446744073709551616 ∧ (k < 9 → x + c % 128 * 2 ^ (7 * k) < 2 ^ (7 * (k + 1))) := by
  have hp := pow7 hk
  have hm : c % 128 * 2 ^ (7 * k) + 2 ^ (7 * k) ≤ 128 * 2 ^ (7 * k) := by
    have : (c % 128 + 1) * 2 ^ (7 * k) ≤ 128 * 2 ^ (7 * k) := Nat.mul_le_mul_right _ (by omega)
    rwa [Nat.add_mul, Nat.one_mul] at this
  have hlt : c % 128 * 2 ^ (7 * k) + 2 ^ (7 * k) ≤ 18446744073709551616 := by
    by_cases h9 : k = 9
    · have hc1 : c ≤ 1 := by omega
      have e : c % 128 = c := by omega
      rw [e, h9]
      exact nine c hc1
    · have : 2 ^ (7 * (k + 1)) ≤ 2 ^ 63 := Nat.pow_le_pow_right (by decide) (by omega)
      rw [pow_next] at this
      have e : (2 : Nat) ^ 63 = 9223372036854775808 := by decide
      omega
  rw [Nat.mod_eq_of_lt (by omega), bits_add h]
  exact ⟨rfl, by omega, fun _ => by rw [pow_next]; omega⟩
section
variable {b : Bytes} {k x : Nat} {c : UInt8}
theorem drop_cons {α : Type} {l : List α} {k : Nat} {x : α} (h : l[k]? = some x) : l.drop k = x :: l.drop (k + 1) := by
  obtain ⟨h1, h2⟩ := List.getElem?_eq_some_iff.1 h
  rw [List.drop_eq_getElem_cons h1, h2]
theorem vgo_end (h : b.length ≤ k) : vgo k x (b.drop k) = none := by rw [List.drop_of_length_le h]; rfl
theorem vgo_big (hc : b[k]? = some c) (h : k = 9 ∧ c.toNat > 1) : vgo k x (b.drop k) = none := by rw [drop_cons hc]; exact if_pos h
theorem vgo_zero (hc : b[k]? = some c) (h1 : ¬ c.toNat ≥ 128) (h : c.toNat = 0 ∧ k > 0) : vgo k x (b.drop k) = none := by
  rw [drop_cons hc]; unfold vgo; rw [if_neg (by omega), if_neg h1, if_pos h]
theorem vgo_more (hx : x < 2 ^ (7 * k)) (hk : k ≤ 9) (hc : b[k]? = some c) (h0 : ¬ (k = 9 ∧ c.toNat > 1)) (h1 : c.toNat ≥ 128) : k < 9 ∧ vgo k x (b.drop k) = vgo (k + 1) (x ||| c.toNat % 128 * 2 ^ (7 * k) % 18446744073709551616) (b.drop (k + 1)) ∧ x ||| c.toNat % 128 * 2 ^ (7 * k) % 18446744073709551616 < 2 ^ (7 * (k + 1)) := by
  obtain ⟨t1, t2, t3⟩ := top_add hx hk h0
  rw [t1]
  refine ⟨by omega, ?_, t3 (by omega)⟩
  rw [drop_cons hc]
  show (if _ then _ else _) = _
  rw [if_neg h0, if_pos h1]
theorem vgo_done (hx : x < 2 ^ (7 * k)) (hk : k ≤ 9) (hc : b[k]? = some c) (h0 : ¬ (k = 9 ∧ c.toNat > 1)) (h1 : ¬ c.toNat ≥ 128) (h2 : ¬ (c.toNat = 0 ∧ k > 0)) : vgo k x (b.drop k) = some (x ||| c.toNat % 128 * 2 ^ (7 * k) % 18446744073709551616, k + 1) ∧ x ||| c.toNat % 128 * 2 ^ (7 * k) % 18446744073709551616 < 18446744073709551616 := by
  obtain ⟨t1, t2, t3⟩ := top_add hx hk h0
  rw [t1]
  refine ⟨?_, t2⟩
  rw [drop_cons hc]
  show (if _ then _ else _) = _
  rw [if_neg h0, if_neg h1, if_neg h2]
end
theorem vgo_bounds : ∀ {b : Bytes} {i x y n : Nat}, x < 2 ^ (7 * i) → i ≤ 9 → vgo i x b = some (y, n) → y < 18446744073709551616 ∧ i < n ∧ n ≤ i + b.length ∧ n ≤ 10
  | [], _, _, _, _, _, _, h => by cases h
  | c :: r, i, x, y, n, hx, hi, h => by
    unfold vgo at h
    split at h
    · cases h
    · rename_i h0
      obtain ⟨t1, t2, t3⟩ := top_add hx hi h0
      split at h
      · have := vgo_bounds (t3 (by omega)) (by omega) h
        simp only [List.length_cons]; omega
      · split at h
        · cases h
        · simp only [Option.some.injEq, Prod.mk.injEq] at h
          simp only [List.length_cons]; omega
theorem vread_bounds {b : Bytes} {x n : Nat} (h : vread b = some (x, n)) : x < 18446744073709551616 ∧ 1 ≤ n ∧ n ≤ b.length ∧ n ≤ 10 := by
  have := vgo_bounds (by decide) (by decide) h
  omega
theorem vX_bounds (b : Bytes) : vX b < 18446744073709551616 ∧ vN b ≤ b.length ∧ vN b ≤ 10 ∧ (vE b = 0 ∨ vE b = 5) := by
  unfold vX vN vE
  cases h : vread b with
  | none => simp
  | some p =>
    obtain ⟨x, n⟩ := p
    have := vread_bounds h
    exact ⟨this.1, this.2.2.1, this.2.2.2, .inl rfl⟩
theorem v_none {b : Bytes} (h : vread b = none) : vX b = 0 ∧ vN b = 0 ∧ vE b = 5 := by unfold vX vN vE; rw [h]; simp
theorem v_some {b : Bytes} {x n : Nat} (h : vread b = some (x, n)) : vX b = x ∧ vN b = n ∧ vE b = 0 := by unfold vX vN vE; rw [h]; simp
theorem s_bounds (b : Bytes) (m : Int) (hm : m ≤ 9223372036854775807) : sX b m < 9223372036854775808 ∧ (0 ≤ m → (sX b m : Int) ≤ m) ∧ sN b m ≤ b.length ∧ sN b m ≤ 10 ∧ (sE b m = 0 ∨ sE b m = 5) := by
  unfold sX sN sE vsmall
  cases h : vread b with
  | none => exact ⟨Nat.succ_pos _, fun h => h, Nat.zero_le _, Nat.zero_le _, .inr rfl⟩
  | some p =>
    obtain ⟨x, n⟩ := p
    have := vread_bounds h
    dsimp only
    by_cases hx : (x : Int) ≤ m
    · rw [if_pos hx]
      exact ⟨by dsimp only; omega, fun _ => hx, this.2.2.1, this.2.2.2, .inl rfl⟩
    · rw [if_neg hx]
      exact ⟨Nat.succ_pos _, fun h => h, Nat.zero_le _, Nat.zero_le _, .inr rfl⟩
theorem s_bad {b : Bytes} {m : Int} (h : ¬ vE b = 0 ∨ m < 0 ∨ m < (vX b : Int)) : sX b m = 0 ∧ sN b m = 0 ∧ sE b m = 5 := by
  have : vsmall b m = none := by
    unfold vE vX at h
    unfold vsmall
    cases hv : vread b with
    | none => rfl
    | some p =>
      obtain ⟨x, n⟩ := p
      rw [hv] at h
      dsimp only at h ⊢
      rw [if_neg (by omega)]
  unfold sX sN sE; rw [this]; simp
theorem s_good {b : Bytes} {m : Int} (h : vE b = 0) (h1 : ¬ m < (vX b : Int)) : sX b m = vX b ∧ sN b m = vN b ∧ sE b m = 0 := by
  unfold vE at h
  unfold vX at h1
  unfold sX sN sE vX vN vsmall
  cases hv : vread b with
  | none => rw [hv] at h; cases h
  | some p =>
    obtain ⟨x, n⟩ := p
    rw [hv] at h1
    dsimp only at h1 ⊢
    rw [if_pos (by omega)]; exact ⟨rfl, rfl, rfl⟩
theorem or64 {x : Nat} (h : x < 18446744073709551616) (y : Nat) : x ||| y % 18446744073709551616 < 18446744073709551616 := by
  have := Nat.or_lt_two_pow (n := 64) (x := x) (y := y % 18446744073709551616) (by simpa using h) (by simpa using Nat.mod_lt y (by decide : 0 < 18446744073709551616))
  simpa using this
abbrev RS := Int × Bool
def rNum (B : Bytes) (m : Int) (s : RS) : Int × RS := if s.2 = true then (0, s) else if sE (B.drop s.1.toNat) m = 0 then ((sX (B.drop s.1.toNat) m : Int), (s.1 + (sN (B.drop s.1.toNat) m : Int), false)) else (0, (s.1, true))
def rBytes (B : Bytes) (n : Int) (s : RS) : Bytes × RS := if s.2 = true ∨ (B.length : Int) - s.1 < n then ([], (s.1, true)) else ((B.drop s.1.toNat).take n.toNat, (s.1 + n, false))
def rText (B : Bytes) (m : Int) (s : RS) : Bytes × RS := rBytes B (rNum B m s).1 (rNum B m s).2
def rOp (B last : Bytes) (s : RS) : DOp × RS :=
  let a := rNum B 1 s
  let b := rNum B last.length a.2
  let t := rText B 16 b.2
  let key := last.take b.1.toNat ++ t.1
  let bad := t.2.2 || decide (¬ (shared last key : Int) = b.1)
  if a.1 = 1 then ((true, key, (rText B 32 (t.2.1, bad)).1), (rText B 32 (t.2.1, bad)).2) else ((false, key, []), (t.2.1, bad))
def pOps (B : Bytes) : Nat → Bytes → RS → List DOp × RS
  | 0, _, s => ([], s)
  | n + 1, last, s => if s.2 = true then ([], s) else ((rOp B last s).1 :: (pOps B n (rOp B last s).1.2.1 (rOp B last s).2).1, (pOps B n (rOp B last s).1.2.1 (rOp B last s).2).2)
def bRead (B : Bytes) : List DOp × Int × Int :=
  let k := rNum B 8 (0, false)
  let r := pOps B k.1.toNat [] k.2
  if r.2.2 = true ∨ ¬ batchCheck r.1 = 0 then ([], 0, 5) else (r.1, r.2.1, 0)
theorem fnOk157 : fnOk Tryz.prog 157 = true := by kernel_rfl
theorem tk5 : tk Tryz.prog 5 = some none := by kernel_rfl
theorem fin0_vRead_ok {P : Prop} (h : P := by first | (have e := v_none (hv.trans (vgo_end (by omega))); rw [e.1, e.2.1, e.2.2] <;> rfl) | (have e := v_none (hv.trans (vgo_big ‹d0[k]? = some _› ⟨by omega, by omega⟩)); rw [e.1, e.2.1, e.2.2] <;> rfl) | (have e := v_none (hv.trans (vgo_zero ‹d0[k]? = some _› (by omega) ⟨by omega, by omega⟩)); rw [e.1, e.2.1, e.2.2] <;> rfl) | (have e := v_some (hv.trans (vgo_done hx h9 ‹d0[k]? = some _› (by omega) (by omega) (by omega)).1); rw [e.1, e.2.1, e.2.2] <;> rfl)) : P := h
theorem vRead_ok (W : World) {v0 : Value} {d0 : List UInt8} (h0 : Rd (.sl .byte) (wm W) [v0] d0) : CallR Tryz.prog 157 [v0] W (mnil) (fun v m' => v = .tuple #[.int .u64 ((vX d0 : Nat) : Int), .int .i64 ((vN d0 : Nat) : Int), .int .i64 (vE d0)]) := by
  obtain ⟨A0, c0, rfl, l0, k0⟩ := h0.slice
  simp only [maxLen] at k0
  refine CallR.ofA (n := 40) Tryz.func157 rfl rfl rfl ?_
  refine VC.rs ?_
  refine VO.as ?_
  refine VO.as ?_
  refine VO.as ?_
  refine VO.k4 0 2 3 4 ?_
  refine VC.seq ?_
  refine VC.rs ?_
  refine VO.mv ?_
  refine VO.y rfl (.lenS rfl tsl97) ?_
  refine VO.mv ?_
  refine VO.k7 0 2 3 4 7 8 9 ?_
  refine VC.block ?_
  refine VC.loop (G := Nat × Nat) (fun g => [(2, Value.int .u64 ((((g.2) : Nat) : Int))), (9, Value.int .i64 ((((g.1) : Nat) : Int))), (0, Value.slice A0 (d0.length) (c0)), (7, Value.slice A0 (d0.length) (c0)), (8, Value.int .i64 (((d0.length : Nat) : Int)))]) (fun g => [(0, wm W)]) (fun g => ((g.1) ≤ d0.length) ∧ ((g.1) ≤ 9) ∧ ((g.2) < 2 ^ (7 * (g.1))) ∧ (vread d0 = vgo (g.1) (g.2) (d0.drop (g.1)))) (fun g => d0.length - (g.1)) (0, 0) (⟨by omega, by omega, by decide, by rfl⟩) ⟨⟨rfl, rfl, rfl, rfl, rfl, trivial⟩, fun _ h => h.sub [0]⟩ ?_
  rintro ⟨k, x⟩ ⟨hk, h9, hx, hv⟩
  replace hk : k ≤ d0.length := hk
  replace h9 : k ≤ 9 := h9
  replace hx : x < 2 ^ (7 * k) := hx
  replace hv : vread d0 = vgo k x (d0.drop k) := hv
  show VC _ _ _ _ _ [(2, Value.int .u64 (((x : Nat) : Int))), (9, Value.int .i64 (((k : Nat) : Int))), (0, Value.slice A0 (d0.length) (c0)), (7, Value.slice A0 (d0.length) (c0)), (8, Value.int .i64 (((d0.length : Nat) : Int)))] [(0, wm W)]
  have hx64 := low64 hx h9
  refine VC.rs ?_
  refine VO.y rfl (.lss rfl rfl) ?_
  refine VO.kp [0] [(0, wm W)] ?_
  refine VO.k6 0 2 7 8 9 10 ?_
  refine VC.seq ?_
  refine VC.cond rfl (fun hc1 => ?_) (fun hc1 => ?_)
  · -- T
    refine VC.skip ?_
    refine outN ?_
    refine VC.seq ?_
    refine VC.block ?_
    refine VC.rs ?_
    refine VO.mv ?_
    obtain ⟨x2, hx2⟩ : ∃ z_, (d0)[k]? = some z_ := ⟨_, List.getElem?_eq_getElem bd⟩
    obtain ⟨gg2, oo2, ec2, ea2, hce2, hre2⟩ := h0.elem hx2
    cases ea2
    obtain rfl := (show _ = _ from hre2)
    have xb2 := x2.toNat_lt
    refine VO.y rfl (.ixI k rfl rfl tsl97 rfl bd) ?_
    refine VO.y rfl (.ld1 0 rfl tk5 rfl hce2) ?_
    refine VO.as ?_
    refine VO.as ?_
    refine VO.k8 0 2 5 6 7 8 9 10 ?_
    refine VC.seq ?_
    refine VC.rs ?_
    refine VO.mv ?_
    refine VO.y rfl (.eql rfl rfl) ?_
    refine VO.mv ?_
    refine VO.dec (t := 16) rfl (fun hc3 => ?_) (fun hc3 => ?_)
    · -- TT
      refine VO.gy rfl ⟨_, rfl, rfl⟩ (.mv rfl) ?_
      refine VO.gy rfl ⟨_, rfl, rfl⟩ (.gtr rfl rfl) ?_
      refine VO.y rfl (.pT rfl rfl) ?_
      refine VO.k9 0 2 5 6 7 8 9 10 19 ?_
      refine VC.cond rfl (fun hc4 => ?_) (fun hc4 => ?_)
      · -- TTT
        refine VC.exit ?_
        refine outE ?_
        refine outBE rfl ?_
        refine outE ?_
        refine outE ?_
        refine outBB ?_
        refine outN ?_
        refine VC.rs ?_
        refine VO.as ?_
        refine VO.as ?_
        refine VO.as ?_
        refine VO.kp [0] [(0, wm W)] ?_
        refine VO.k11 0 2 3 4 5 6 7 8 9 10 19 ?_
        refine VC.ret ?_
        refine ⟨_, _, res_run (rs := [.tmp 2, .tmp 3, .tmp 4]) rfl (.tmp rfl (.tmp rfl (.tmp rfl .nil))), fun W_ hI => out_of (l := []) hI [] rfl rfl (mle_refl _) (fun hS_ => ?_)⟩
        dsimp only [packV]
        all_goals (first | rfl | (exact fin0_vRead_ok))
      · -- TTF
        refine VC.skip ?_
        refine outN ?_
        refine VC.rs ?_
        refine VO.mv ?_
        refine VO.mv ?_
        refine VO.y rfl (.bit (.inl rfl) rfl rfl (and127 _ (by omega))) ?_
        refine VO.y rfl (.cvI rfl ⟨_, Tryz.underlying5⟩ Tryz.underlying163 (IntWalk.u64_in _ bd)) ?_
        refine VO.mv ?_
        refine VO.y rfl (.mul (c := ((7 * k : Nat) : Int)) rfl rfl (by omega) ⟨bd, bd⟩) ?_
        refine VO.y rfl (.shf (.inl rfl) rfl rfl (shlU _ _ bd)) ?_
        refine VO.y rfl (.bit (.inr (.inl rfl)) rfl rfl (orU _ _ bd (by omega))) ?_
        refine VO.as ?_
        refine VO.kp [0] [(0, wm W)] ?_
        refine VO.k9 0 2 5 6 7 8 9 10 19 ?_
        refine VC.seq ?_
        refine VC.rs ?_
        refine VO.mv ?_
        refine VO.y rfl (.geq rfl rfl) ?_
        refine VO.k10 0 2 5 6 7 8 9 10 19 29 ?_
        refine VC.cond rfl (fun hc5 => ?_) (fun hc5 => ?_)
        · -- TTFT
          refine VC.exit ?_
          refine outE ?_
          refine outBB ?_
          refine outN ?_
          refine VC.reg ?_
          refine VO.y rfl (.add (c := ((k + 1 : Nat) : Int)) rfl rfl (by omega) ⟨bd, bd⟩) ?_
          refine VO.mv ?_
          refine VO.k10 0 2 5 6 7 8 9 10 19 29 ?_
          exact outN ⟨⟨k + 1, x ||| ((x2.toNat % 128) * 2 ^ (7 * k) % 18446744073709551616)⟩, ⟨by omega, by have := (vgo_more hx h9 ‹d0[k]? = some _› (by omega) (by omega)).1; omega, by exact (vgo_more hx h9 ‹d0[k]? = some _› (by omega) (by omega)).2.2, by exact hv.trans (vgo_more hx h9 ‹d0[k]? = some _› (by omega) (by omega)).2.1⟩, bd, ⟨⟨rfl, rfl, rfl, rfl, rfl, trivial⟩, fun _ h => Inv.sub h [0]⟩⟩
        · -- TTFF
          refine VC.skip ?_
          refine outN ?_
          refine VC.seq ?_
          refine VC.rs ?_
          refine VO.mv ?_
          refine VO.y rfl (.eql rfl rfl) ?_
          refine VO.mv ?_
          refine VO.dec (t := 32) rfl (fun hc6 => ?_) (fun hc6 => ?_)
          · -- TTFFT
            refine VO.gy rfl ⟨_, rfl, rfl⟩ (.mv rfl) ?_
            refine VO.gy rfl ⟨_, rfl, rfl⟩ (.gtr rfl rfl) ?_
            refine VO.y rfl (.pT rfl rfl) ?_
            refine VO.k11 0 2 5 6 7 8 9 10 19 29 35 ?_
            refine VC.cond rfl (fun hc7 => ?_) (fun hc7 => ?_)
            · -- TTFFTT
              refine VC.exit ?_
              refine outE ?_
              refine outBE rfl ?_
              refine outE ?_
              refine outE ?_
              refine outBB ?_
              refine outN ?_
              refine VC.rs ?_
              refine VO.as ?_
              refine VO.as ?_
              refine VO.as ?_
              refine VO.kp [0] [(0, wm W)] ?_
              refine VO.k13 0 2 3 4 5 6 7 8 9 10 19 29 35 ?_
              refine VC.ret ?_
              refine ⟨_, _, res_run (rs := [.tmp 2, .tmp 3, .tmp 4]) rfl (.tmp rfl (.tmp rfl (.tmp rfl .nil))), fun W_ hI => out_of (l := []) hI [] rfl rfl (mle_refl _) (fun hS_ => ?_)⟩
              dsimp only [packV]
              all_goals (first | rfl | (exact fin0_vRead_ok))
            · -- TTFFTF
              refine VC.skip ?_
              refine outN ?_
              refine VC.rs ?_
              refine VO.mv ?_
              refine VO.mv ?_
              refine VO.y rfl (.add (c := ((k + 1 : Nat) : Int)) rfl rfl (by omega) ⟨bd, bd⟩) ?_
              refine VO.as ?_
              refine VO.as ?_
              refine VO.as ?_
              refine VO.kp [0] [(0, wm W)] ?_
              refine VO.k13 0 2 3 4 5 6 7 8 9 10 19 29 35 ?_
              refine VC.ret ?_
              refine outBR ?_
              refine outR ?_
              refine outR ?_
              refine outBR ?_
              refine outR ?_
              refine ⟨_, _, res_run (rs := [.tmp 2, .tmp 3, .tmp 4]) rfl (.tmp rfl (.tmp rfl (.tmp rfl .nil))), fun W_ hI => out_of (l := []) hI [] rfl rfl (mle_refl _) (fun hS_ => ?_)⟩
              dsimp only [packV]
              all_goals (first | rfl | (exact fin0_vRead_ok))
          · -- TTFFF
            refine VO.gN ?_
            refine VO.gN ?_
            refine VO.y rfl (.pF rfl rfl) ?_
            refine VO.k11 0 2 5 6 7 8 9 10 19 29 35 ?_
            refine VC.condF rfl ?_
            refine VC.skip ?_
            refine outN ?_
            refine VC.rs ?_
            refine VO.mv ?_
            refine VO.mv ?_
            refine VO.y rfl (.add (c := ((k + 1 : Nat) : Int)) rfl rfl (by omega) ⟨bd, bd⟩) ?_
            refine VO.as ?_
            refine VO.as ?_
            refine VO.as ?_
            refine VO.kp [0] [(0, wm W)] ?_
            refine VO.k13 0 2 3 4 5 6 7 8 9 10 19 29 35 ?_
            refine VC.ret ?_
            refine outBR ?_
            refine outR ?_
            refine outR ?_
            refine outBR ?_
            refine outR ?_
            refine ⟨_, _, res_run (rs := [.tmp 2, .tmp 3, .tmp 4]) rfl (.tmp rfl (.tmp rfl (.tmp rfl .nil))), fun W_ hI => out_of (l := []) hI [] rfl rfl (mle_refl _) (fun hS_ => ?_)⟩
            dsimp only [packV]
            all_goals (first | rfl | (exact fin0_vRead_ok))
    · -- TF
      refine VO.gN ?_
      refine VO.gN ?_
      refine VO.y rfl (.pF rfl rfl) ?_
      refine VO.k9 0 2 5 6 7 8 9 10 19 ?_
      refine VC.condF rfl ?_
      refine VC.skip ?_
      refine outN ?_
      refine VC.rs ?_
      refine VO.mv ?_
      refine VO.mv ?_
      refine VO.y rfl (.bit (.inl rfl) rfl rfl (and127 _ (by omega))) ?_
      refine VO.y rfl (.cvI rfl ⟨_, Tryz.underlying5⟩ Tryz.underlying163 (IntWalk.u64_in _ bd)) ?_
      refine VO.mv ?_
      refine VO.y rfl (.mul (c := ((7 * k : Nat) : Int)) rfl rfl (by omega) ⟨bd, bd⟩) ?_
      refine VO.y rfl (.shf (.inl rfl) rfl rfl (shlU _ _ bd)) ?_
      refine VO.y rfl (.bit (.inr (.inl rfl)) rfl rfl (orU _ _ bd (by omega))) ?_
      refine VO.as ?_
      refine VO.kp [0] [(0, wm W)] ?_
      refine VO.k9 0 2 5 6 7 8 9 10 19 ?_
      refine VC.seq ?_
      refine VC.rs ?_
      refine VO.mv ?_
      refine VO.y rfl (.geq rfl rfl) ?_
      refine VO.k10 0 2 5 6 7 8 9 10 19 29 ?_
      refine VC.cond rfl (fun hc8 => ?_) (fun hc8 => ?_)
      · -- TFT
        refine VC.exit ?_
        refine outE ?_
        refine outBB ?_
        refine outN ?_
        refine VC.reg ?_
        refine VO.y rfl (.add (c := ((k + 1 : Nat) : Int)) rfl rfl (by omega) ⟨bd, bd⟩) ?_
        refine VO.mv ?_
        refine VO.k10 0 2 5 6 7 8 9 10 19 29 ?_
        exact outN ⟨⟨k + 1, x ||| ((x2.toNat % 128) * 2 ^ (7 * k) % 18446744073709551616)⟩, ⟨by omega, by have := (vgo_more hx h9 ‹d0[k]? = some _› (by omega) (by omega)).1; omega, by exact (vgo_more hx h9 ‹d0[k]? = some _› (by omega) (by omega)).2.2, by exact hv.trans (vgo_more hx h9 ‹d0[k]? = some _› (by omega) (by omega)).2.1⟩, bd, ⟨⟨rfl, rfl, rfl, rfl, rfl, trivial⟩, fun _ h => Inv.sub h [0]⟩⟩
      · -- TFF
        refine VC.skip ?_
        refine outN ?_
        refine VC.seq ?_
        refine VC.rs ?_
        refine VO.mv ?_
        refine VO.y rfl (.eql rfl rfl) ?_
        refine VO.mv ?_
        refine VO.dec (t := 32) rfl (fun hc9 => ?_) (fun hc9 => ?_)
        · -- TFFT
          refine VO.gy rfl ⟨_, rfl, rfl⟩ (.mv rfl) ?_
          refine VO.gy rfl ⟨_, rfl, rfl⟩ (.gtr rfl rfl) ?_
          refine VO.y rfl (.pT rfl rfl) ?_
          refine VO.k11 0 2 5 6 7 8 9 10 19 29 35 ?_
          refine VC.cond rfl (fun hc10 => ?_) (fun hc10 => ?_)
          · -- TFFTT
            refine VC.exit ?_
            refine outE ?_
            refine outBE rfl ?_
            refine outE ?_
            refine outE ?_
            refine outBB ?_
            refine outN ?_
            refine VC.rs ?_
            refine VO.as ?_
            refine VO.as ?_
            refine VO.as ?_
            refine VO.kp [0] [(0, wm W)] ?_
            refine VO.k13 0 2 3 4 5 6 7 8 9 10 19 29 35 ?_
            refine VC.ret ?_
            refine ⟨_, _, res_run (rs := [.tmp 2, .tmp 3, .tmp 4]) rfl (.tmp rfl (.tmp rfl (.tmp rfl .nil))), fun W_ hI => out_of (l := []) hI [] rfl rfl (mle_refl _) (fun hS_ => ?_)⟩
            dsimp only [packV]
            all_goals (first | rfl | (exact fin0_vRead_ok))
          · -- TFFTF
            refine VC.skip ?_
            refine outN ?_
            refine VC.rs ?_
            refine VO.mv ?_
            refine VO.mv ?_
            refine VO.y rfl (.add (c := ((k + 1 : Nat) : Int)) rfl rfl (by omega) ⟨bd, bd⟩) ?_
            refine VO.as ?_
            refine VO.as ?_
            refine VO.as ?_
            refine VO.kp [0] [(0, wm W)] ?_
            refine VO.k13 0 2 3 4 5 6 7 8 9 10 19 29 35 ?_
            refine VC.ret ?_
            refine outBR ?_
            refine outR ?_
            refine outR ?_
            refine outBR ?_
            refine outR ?_
            refine ⟨_, _, res_run (rs := [.tmp 2, .tmp 3, .tmp 4]) rfl (.tmp rfl (.tmp rfl (.tmp rfl .nil))), fun W_ hI => out_of (l := []) hI [] rfl rfl (mle_refl _) (fun hS_ => ?_)⟩
            dsimp only [packV]
            all_goals (first | rfl | (exact fin0_vRead_ok))
        · -- TFFF
          refine VO.gN ?_
          refine VO.gN ?_
          refine VO.y rfl (.pF rfl rfl) ?_
          refine VO.k11 0 2 5 6 7 8 9 10 19 29 35 ?_
          refine VC.condF rfl ?_
          refine VC.skip ?_
          refine outN ?_
          refine VC.rs ?_
          refine VO.mv ?_
          refine VO.mv ?_
          refine VO.y rfl (.add (c := ((k + 1 : Nat) : Int)) rfl rfl (by omega) ⟨bd, bd⟩) ?_
          refine VO.as ?_
          refine VO.as ?_
          refine VO.as ?_
          refine VO.kp [0] [(0, wm W)] ?_
          refine VO.k13 0 2 3 4 5 6 7 8 9 10 19 29 35 ?_
          refine VC.ret ?_
          refine outBR ?_
          refine outR ?_
          refine outR ?_
          refine outBR ?_
          refine outR ?_
          refine ⟨_, _, res_run (rs := [.tmp 2, .tmp 3, .tmp 4]) rfl (.tmp rfl (.tmp rfl (.tmp rfl .nil))), fun W_ hI => out_of (l := []) hI [] rfl rfl (mle_refl _) (fun hS_ => ?_)⟩
          dsimp only [packV]
          all_goals (first | rfl | (exact fin0_vRead_ok))
  · -- F
    refine VC.exit ?_
    refine outE ?_
    refine outE ?_
    refine outBB ?_
    refine outN ?_
    refine VC.rs ?_
    refine VO.as ?_
    refine VO.as ?_
    refine VO.as ?_
    refine VO.k8 0 2 3 4 7 8 9 10 ?_
    refine VC.ret ?_
    refine ⟨_, _, res_run (rs := [.tmp 2, .tmp 3, .tmp 4]) rfl (.tmp rfl (.tmp rfl (.tmp rfl .nil))), fun W_ hI => out_of (l := []) hI [] rfl rfl (mle_refl _) (fun hS_ => ?_)⟩
    dsimp only [packV]
    all_goals (first | rfl | (exact fin0_vRead_ok))
theorem vSmall_ok (W : World) {v0 : Value} {d0 : List UInt8} (h0 : Rd (.sl .byte) (wm W) [v0] d0) (d1 : Int) (h1 : inK .i64 d1) : CallR Tryz.prog 134 [v0, .int .i64 d1] W (mnil) (fun v m' => v = .tuple #[.int .i64 ((sX d0 d1 : Nat) : Int), .int .i64 ((sN d0 d1 : Nat) : Int), .int .i64 (sE d0 d1)]) := by
  obtain ⟨A0, c0, rfl, l0, k0⟩ := h0.slice
  simp only [maxLen] at k0
  have h1' := h1; simp only [inK] at h1'
  refine CallR.ofA (n := 29) Tryz.func134 rfl rfl rfl ?_
  refine VC.rs ?_
  refine VO.as ?_
  refine VO.as ?_
  refine VO.as ?_
  refine VO.k5 0 1 4 5 6 ?_
  refine VC.rs ?_
  refine VO.mv ?_
  refine VO.callN 101 rfl fnOk157 rfl (fun W hW => vRead_ok W (Rd.mono h0 (hW.at (i := 0) rfl))) (fun v1 m1 hv1 => ?_)
  subst hv1
  have hfa2 := vX_bounds d0
  refine VO.mv ?_
  refine VO.y rfl (.ext rfl rfl) ?_
  refine VO.y rfl (.ext rfl rfl) ?_
  refine VO.y rfl (.ext rfl rfl) ?_
  refine VO.as ?_
  refine VO.as ?_
  refine VO.as ?_
  refine VO.k6 0 1 4 5 6 7 ?_
  refine VC.seq ?_
  refine VC.rs ?_
  refine VO.mv ?_
  refine VO.y rfl (.neq rfl rfl) ?_
  refine VO.mv ?_
  refine VO.dec (t := 16) rfl (fun hc3 => ?_) (fun hc3 => ?_)
  · -- T
    refine VO.gN ?_
    refine VO.gN ?_
    refine VO.y rfl (.pT rfl rfl) ?_
    refine VO.mv ?_
    refine VO.gN ?_
    refine VO.gN ?_
    refine VO.gN ?_
    refine VO.gN ?_
    refine VO.y rfl (.pT rfl rfl) ?_
    refine VO.kp [0] [(0, wm W)] ?_
    refine VO.k7 0 1 4 5 6 7 25 ?_
    refine VC.condT rfl ?_
    refine VC.rs ?_
    refine VO.as ?_
    refine VO.as ?_
    refine VO.as ?_
    refine VO.k7 0 1 4 5 6 7 25 ?_
    refine VC.ret ?_
    refine outR ?_
    refine ⟨_, _, res_run (rs := [.tmp 4, .tmp 5, .tmp 6]) rfl (.tmp rfl (.tmp rfl (.tmp rfl .nil))), fun W_ hI => out_of (l := []) hI [] rfl rfl (mle_refl _) (fun hS_ => ?_)⟩
    dsimp only [packV]
    all_goals (first | rfl | (first | (have e := s_bad (b := d0) (m := d1) (by omega); rw [e.1, e.2.1, e.2.2] <;> rfl) | (have e := s_good (b := d0) (m := d1) (by omega) (by omega); rw [e.1, e.2.1, e.2.2] <;> rfl)))
  · -- F
    refine VO.gy rfl ⟨_, rfl, rfl⟩ (.mv rfl) ?_
    refine VO.gy rfl ⟨_, rfl, rfl⟩ (.lss rfl rfl) ?_
    refine VO.y rfl (.pF rfl rfl) ?_
    refine VO.mv ?_
    refine VO.dec (t := 20) rfl (fun hc4 => ?_) (fun hc4 => ?_)
    · -- FT
      refine VO.gN ?_
      refine VO.gN ?_
      refine VO.gN ?_
      refine VO.gN ?_
      refine VO.y rfl (.pT rfl rfl) ?_
      refine VO.kp [0] [(0, wm W)] ?_
      refine VO.k7 0 1 4 5 6 7 25 ?_
      refine VC.condT rfl ?_
      refine VC.rs ?_
      refine VO.as ?_
      refine VO.as ?_
      refine VO.as ?_
      refine VO.k7 0 1 4 5 6 7 25 ?_
      refine VC.ret ?_
      refine outR ?_
      refine ⟨_, _, res_run (rs := [.tmp 4, .tmp 5, .tmp 6]) rfl (.tmp rfl (.tmp rfl (.tmp rfl .nil))), fun W_ hI => out_of (l := []) hI [] rfl rfl (mle_refl _) (fun hS_ => ?_)⟩
      dsimp only [packV]
      all_goals (first | rfl | (first | (have e := s_bad (b := d0) (m := d1) (by omega); rw [e.1, e.2.1, e.2.2] <;> rfl) | (have e := s_good (b := d0) (m := d1) (by omega) (by omega); rw [e.1, e.2.1, e.2.2] <;> rfl)))
    · -- FF
      refine VO.gy rfl ⟨_, rfl, rfl⟩ (.mv rfl) ?_
      refine VO.gy rfl ⟨_, rfl, rfl⟩ (.mv rfl) ?_
      refine VO.gy rfl ⟨_, rfl, rfl⟩ (.cvI (c := ((d1).toNat : Int)) rfl ⟨_, Tryz.underlying3⟩ Tryz.underlying163 (by rw [IntWalk.u64_in _ bd]; first | omega | (first | omega | (simp only [List.length_append, List.length_nil, List.length_cons, List.length_take, List.length_drop] at *; omega)))) ?_
      refine VO.gy rfl ⟨_, rfl, rfl⟩ (.gtr rfl rfl) ?_
      refine VO.y rfl (.pF rfl rfl) ?_
      refine VO.kp [0] [(0, wm W)] ?_
      refine VO.k7 0 1 4 5 6 7 25 ?_
      refine VC.cond rfl (fun hc5 => ?_) (fun hc5 => ?_)
      · -- FFT
        refine VC.rs ?_
        refine VO.as ?_
        refine VO.as ?_
        refine VO.as ?_
        refine VO.k7 0 1 4 5 6 7 25 ?_
        refine VC.ret ?_
        refine outR ?_
        refine ⟨_, _, res_run (rs := [.tmp 4, .tmp 5, .tmp 6]) rfl (.tmp rfl (.tmp rfl (.tmp rfl .nil))), fun W_ hI => out_of (l := []) hI [] rfl rfl (mle_refl _) (fun hS_ => ?_)⟩
        dsimp only [packV]
        all_goals (first | rfl | (first | (have e := s_bad (b := d0) (m := d1) (by omega); rw [e.1, e.2.1, e.2.2] <;> rfl) | (have e := s_good (b := d0) (m := d1) (by omega) (by omega); rw [e.1, e.2.1, e.2.2] <;> rfl)))
      · -- FFF
        refine VC.skip ?_
        refine outN ?_
        refine VC.rs ?_
        refine VO.mv ?_
        refine VO.y rfl (.cvI rfl ⟨_, Tryz.underlying163⟩ Tryz.underlying3 (IntWalk.i64_in _ bd)) ?_
        refine VO.mv ?_
        refine VO.as ?_
        refine VO.as ?_
        refine VO.as ?_
        refine VO.k7 0 1 4 5 6 7 25 ?_
        refine VC.ret ?_
        refine ⟨_, _, res_run (rs := [.tmp 4, .tmp 5, .tmp 6]) rfl (.tmp rfl (.tmp rfl (.tmp rfl .nil))), fun W_ hI => out_of (l := []) hI [] rfl rfl (mle_refl _) (fun hS_ => ?_)⟩
        dsimp only [packV]
        all_goals (first | rfl | (first | (have e := s_bad (b := d0) (m := d1) (by omega); rw [e.1, e.2.1, e.2.2] <;> rfl) | (have e := s_good (b := d0) (m := d1) (by omega) (by omega); rw [e.1, e.2.1, e.2.2] <;> rfl)))
theorem batchCheck_mem {l : List DOp} (h : batchCheck l = 0) {o : DOp} (ho : o ∈ l) : opOk o := by
  unfold batchCheck at h
  split at h
  · cases h
  · split at h
    · cases h
    · split at h
      · rename_i h2; exact h2 o ho
      · cases h
theorem tk97 : tk Tryz.prog 97 = some none := by kernel_rfl
def sGo (en : Int) : Int → Int → Nat → List DStart → Prop
  | _, _, _, [] => True
  | le, lf, i, s :: r => le < s.1 ∧ s.1 ≤ 1048576 ∧ lf < s.2 ∧ s.2 ≤ en ∧ (i = 0 → s.2 = 1) ∧ sGo en s.1 s.2 (i + 1) r
instance decGo (en : Int) : ∀ (le lf : Int) (i : Nat) (l : List DStart), Decidable (sGo en le lf i l)
  | _, _, _, [] => isTrue trivial
  | le, lf, i, s :: r => by
    have := decGo en s.1 s.2 (i + 1) r
    unfold sGo; infer_instance
def sCheck (l : List DStart) (en : Int) : Int := if 0 ≤ en ∧ en ≤ 1048576 ∧ ((l.length : Int) = 0 ↔ en = 0) ∧ sGo en 0 0 0 l then 0 else 5
def bareM (m : DMessage) : Prop := m.2.2.1 = 0 ∧ m.2.2.2.1 = 0 ∧ m.2.2.2.2.1.length = 0 ∧ m.2.2.2.2.2.1 = 0 ∧ m.2.2.2.2.2.2.1 = 0 ∧ m.2.2.2.2.2.2.2.length = 0
instance (m : DMessage) : Decidable (bareM m) := by unfold bareM; infer_instance
def lastOk (l : List DStart) (e : Int) : Bool := match l.getLast? with
  | some s => decide (s.1 ≤ e)
  | none => true
def helloM (m : DMessage) : Prop := (1 ≤ m.2.2.1 ∧ m.2.2.1 ≤ 3) ∧ sCheck m.2.2.2.2.1 m.2.2.2.1 = 0 ∧ lastOk m.2.2.2.2.1 m.2.1 = true ∧ m.2.2.2.2.2.1 = 0 ∧ m.2.2.2.2.2.2.1 = 0 ∧ m.2.2.2.2.2.2.2.length = 0
instance (m : DMessage) : Decidable (helloM m) := by unfold helloM; infer_instance
def shipM (m : DMessage) : Prop := (1 ≤ m.2.2.2.2.2.1 ∧ m.2.2.2.2.2.1 ≤ 1048576) ∧ (0 ≤ m.2.2.2.2.2.2.1 ∧ m.2.2.2.2.2.2.1 ≤ m.2.1) ∧ (m.2.2.2.2.2.2.1 = 0 ↔ m.2.2.2.2.2.1 = 1) ∧ m.2.2.2.2.2.2.2.length ≤ 4 ∧
  (cFollows m.2.2.2.2.2.2.1 (m.2.2.2.2.2.1 - 1) m.2.2.2.2.2.2.2).1 = 0 ∧ (∀ c ∈ m.2.2.2.2.2.2.2, c.1 ≤ m.2.1) ∧ m.2.2.1 = 0 ∧ m.2.2.2.1 = 0 ∧ m.2.2.2.2.1.length = 0
instance (m : DMessage) : Decidable (shipM m) := by unfold shipM; infer_instance
def ackM (m : DMessage) : Prop := (0 ≤ m.2.2.2.1 ∧ m.2.2.2.1 ≤ 1048576) ∧ m.2.2.1 = 0 ∧ m.2.2.2.2.1.length = 0 ∧ m.2.2.2.2.2.1 = 0 ∧ m.2.2.2.2.2.2.1 = 0 ∧ m.2.2.2.2.2.2.2.length = 0
instance (m : DMessage) : Decidable (ackM m) := by unfold ackM; infer_instance
def epochAt (l : List DCommit) (n : Int) : Int := match l[n.toNat]? with
  | some c => c.1
  | none => 0
def fitsM (l : List DCommit) (m : DMessage) : Prop := (1 < m.2.2.2.2.2.1 → epochAt l (m.2.2.2.2.2.1 - 2) = m.2.2.2.2.2.2.1) ∧ ∀ c ∈ m.2.2.2.2.2.2.2, c.2.1 ≤ l.length → epochAt l (c.2.1 - 1) = c.1
instance (l : List DCommit) (m : DMessage) : Decidable (fitsM l m) := by unfold fitsM; infer_instance
theorem pick_ok (W : World) (d0 : Int) (h0 : inK .i64 d0) (d1 : Int) (h1 : inK .i64 d1) (e0 : 0 < d1) : CallR Tryz.prog 20 [.int .i64 d0, .int .i64 d1] W (mnil) (fun v m' => v = .int .i64 (pickI d0 d1)) := by
  have h0' := h0; simp only [inK] at h0'
  have h1' := h1; simp only [inK] at h1'
  refine CallR.ofA (n := 14) Tryz.func20 rfl rfl rfl ?_
  refine VC.rs ?_
  refine VO.as ?_
  refine VO.k3 0 1 4 ?_
  refine VC.rs ?_
  refine VO.mv ?_
  refine VO.mv ?_
  have hm1 := tmod_bounds (d0) (d1) bd
  refine VO.y rfl (.quo (.inr rfl) rfl rfl (rem_int _ _ _ bd)) ?_
  refine VO.as ?_
  refine VO.k3 0 1 4 ?_
  refine VC.seq ?_
  refine VC.rs ?_
  refine VO.mv ?_
  refine VO.y rfl (.lss rfl rfl) ?_
  refine VO.kp [0] [(0, wm W)] ?_
  refine VO.k4 0 1 4 9 ?_
  refine VC.cond rfl (fun hc2 => ?_) (fun hc2 => ?_)
  · -- T
    refine VC.reg ?_
    refine VO.mv ?_
    refine VO.mv ?_
    refine VO.y rfl (.add rfl rfl rfl ⟨bd, bd⟩) ?_
    refine VO.as ?_
    refine VO.k4 0 1 4 9 ?_
    refine outN ?_
    refine VC.rs ?_
    refine VO.mv ?_
    refine VO.as ?_
    refine VO.k4 0 1 4 9 ?_
    refine VC.ret ?_
    refine ⟨_, _, res_run (rs := [.tmp 4]) rfl (.tmp rfl .nil), fun W_ hI => out_of (l := []) hI [] rfl rfl (mle_refl _) (fun hS_ => ?_)⟩
    dsimp only [packV]
    all_goals (first | rfl | (congr 1; unfold pickI; split <;> omega))
  · -- F
    refine VC.skip ?_
    refine outN ?_
    refine VC.rs ?_
    refine VO.mv ?_
    refine VO.as ?_
    refine VO.k4 0 1 4 9 ?_
    refine VC.ret ?_
    refine ⟨_, _, res_run (rs := [.tmp 4]) rfl (.tmp rfl .nil), fun W_ hI => out_of (l := []) hI [] rfl rfl (mle_refl _) (fun hS_ => ?_)⟩
    dsimp only [packV]
    all_goals (first | rfl | (congr 1; unfold pickI; split <;> omega))
theorem follows_cons {e n i : Int} {c : DCommit} {r : List DCommit} (h : (cFollowsAt e n i (c :: r)).1 = 0) : cCheck c = 0 ∧ c.2.1 = n + 1 ∧ e ≤ c.1 ∧ (cFollowsAt c.1 c.2.1 (i + 1) r).1 = 0 := by
  unfold cFollowsAt at h
  split at h
  · exact absurd h (by assumption)
  · rename_i h1
    split at h
    · cases h
    · exact ⟨Decidable.not_not.1 h1, by omega, by omega, h⟩
theorem follows_mk {e n i : Int} {c : DCommit} {r : List DCommit} (h1 : cCheck c = 0) (h2 : c.2.1 = n + 1) (h3 : e ≤ c.1) (h4 : (cFollowsAt c.1 c.2.1 (i + 1) r).1 = 0) : (cFollowsAt e n i (c :: r)).1 = 0 := by
  unfold cFollowsAt
  rw [if_neg (by omega), if_neg (by omega)]
  exact h4
theorem follows_idx : ∀ {l : List DCommit} {e n i : Int} (j : Int), (cFollowsAt e n i l).1 = 0 → (cFollowsAt e n j l).1 = 0
  | [], _, _, _, _, _ => rfl
  | c :: r, e, n, i, j, h => by
    obtain ⟨h1, h2, h3, h4⟩ := follows_cons h
    exact follows_mk h1 h2 h3 (follows_idx (j + 1) h4)
theorem follows_get : ∀ {l : List DCommit} {e n i : Int} {k : Nat} {x : DCommit}, (cFollowsAt e n i l).1 = 0 → l[k]? = some x → x.2.1 = n + k + 1 ∧ e ≤ x.1 ∧ cCheck x = 0 ∧ ∀ j, (cFollowsAt x.1 x.2.1 j (l.drop (k + 1))).1 = 0
  | c :: r, e, n, i, 0, x, h, hx => by
    obtain ⟨h1, h2, h3, h4⟩ := follows_cons h
    simp at hx; subst hx
    exact ⟨by omega, h3, h1, fun j => follows_idx j h4⟩
  | c :: r, e, n, i, k + 1, x, h, hx => by
    obtain ⟨h1, h2, h3, h4⟩ := follows_cons h
    obtain ⟨k1, k2, k3, k4⟩ := follows_get h4 (k := k) (x := x) (by simpa using hx)
    exact ⟨by push_cast; omega, by omega, k3, k4⟩
def lastOr (e : Int) (l : List DCommit) : Int := match l.getLast? with
  | some c => c.1
  | none => e
theorem lastOr_cons (e : Int) (c : DCommit) (r : List DCommit) : lastOr e (c :: r) = lastOr c.1 r := by
  cases r with
  | nil => rfl
  | cons d r => unfold lastOr; rw [List.getLast?_cons_cons]; cases h : (d :: r).getLast? with
    | none => simp at h
    | some x => rfl
theorem follows_app : ∀ {l a : List DCommit} {e n i j : Int}, (cFollowsAt e n i l).1 = 0 → (cFollowsAt (lastOr e l) (n + l.length) j a).1 = 0 → (cFollowsAt e n i (l ++ a)).1 = 0
  | [], a, e, n, i, j, _, h => by
    simp only [lastOr, List.getLast?_nil, List.length_nil] at h
    exact follows_idx i (by simpa using h)
  | c :: r, a, e, n, i, j, h, h' => by
    obtain ⟨h1, h2, h3, h4⟩ := follows_cons h
    rw [lastOr_cons] at h'
    refine follows_mk h1 h2 h3 (follows_app (j := j) h4 ?_)
    rwa [show c.2.1 + (r.length : Int) = n + ((c :: r).length : Nat) by simp only [List.length_cons]; omega]
theorem follows_app_left : ∀ {l a : List DCommit} {e n i : Int}, (cFollowsAt e n i (l ++ a)).1 = 0 → (cFollowsAt e n i l).1 = 0
  | [], _, _, _, _, _ => rfl
  | c :: r, a, e, n, i, h => by
    obtain ⟨h1, h2, h3, h4⟩ := follows_cons h
    exact follows_mk h1 h2 h3 (follows_app_left h4)
theorem follows_app_right : ∀ {l a : List DCommit} {e n i : Int} (j : Int), (cFollowsAt e n i (l ++ a)).1 = 0 → (cFollowsAt (lastOr e l) (n + l.length) j a).1 = 0
  | [], a, e, n, i, j, h => by
    simp only [lastOr, List.getLast?_nil, List.length_nil]
    simpa using follows_idx j (show (cFollowsAt e n i a).1 = 0 from h)
  | c :: r, a, e, n, i, j, h => by
    obtain ⟨h1, h2, h3, h4⟩ := follows_cons h
    have := follows_app_right j h4
    rw [lastOr_cons]
    rwa [show c.2.1 + (r.length : Int) = n + ((c :: r).length : Nat) by simp only [List.length_cons]; omega] at this
theorem vgo_back : ∀ {b : Bytes} {i x y n : Nat}, x < 2 ^ (7 * i) → i ≤ 9 → vgo i x b = some (y, n) → ∃ v, y = x + v * 2 ^ (7 * i) ∧ b = venc v ++ b.drop (n - i) ∧ n = i + (venc v).length ∧ (1 ≤ v ∨ i = 0)
  | [], _, _, _, _, _, _, h => by cases h
  | c :: r, i, x, y, n, hx, hi, h => by
    unfold vgo at h
    split at h
    · cases h
    · rename_i h0
      obtain ⟨t1, t2, t3⟩ := top_add hx hi h0
      have hc := c.toNat_lt
      split at h
      · rename_i h1
        obtain ⟨v, e1, e2, e3, e4⟩ := vgo_back (t3 (by omega)) (by omega) h
        have hv : 1 ≤ v := by omega
        have hd : venc (c.toNat % 128 + 128 * v) = c :: venc v := by
          rw [venc, dif_neg (by omega), show (c.toNat % 128 + 128 * v) / 128 = v by omega, show (c.toNat % 128 + 128 * v) % 128 + 128 = c.toNat by omega]
          simp
        refine ⟨c.toNat % 128 + 128 * v, ?_, ?_, ?_, .inl (by omega)⟩
        · rw [e1, pow_next, Nat.add_mul, Nat.add_assoc, Nat.mul_left_comm, Nat.mul_assoc]
        · rw [hd, show n - i = (n - (i + 1)) + 1 by omega, List.drop_succ_cons, List.cons_append, ← e2]
        · rw [hd, e3, List.length_cons]; omega
      · rename_i h1
        split at h
        · cases h
        · rename_i h2
          simp only [Option.some.injEq, Prod.mk.injEq] at h
          obtain ⟨rfl, rfl⟩ := h
          have hd : venc c.toNat = [c] := by rw [venc, dif_pos (by omega)]; simp
          have hm : c.toNat % 128 = c.toNat := Nat.mod_eq_of_lt (by omega)
          refine ⟨c.toNat, by rw [hm], by rw [hd, show i + 1 - i = 1 by omega]; rfl, by rw [hd]; rfl, by omega⟩
theorem vread_back {b : Bytes} {x n : Nat} (h : vread b = some (x, n)) : b = venc x ++ b.drop n ∧ n = (venc x).length := by
  obtain ⟨v, e1, e2, e3, _⟩ := vgo_back (by decide) (by decide) h
  have : x = v := by simpa using e1
  subst this
  exact ⟨by simpa using e2, by omega⟩
theorem vgo_there : ∀ (v : Nat) {i x : Nat} (r : Bytes), x < 2 ^ (7 * i) → i ≤ 9 → x + v * 2 ^ (7 * i) < 18446744073709551616 → (1 ≤ v ∨ i = 0) → vgo i x (venc v ++ r) = some (x + v * 2 ^ (7 * i), i + (venc v).length) := by
  intro v
  induction v using Nat.strongRecOn with
  | ind v ih =>
    intro i x r hx hi hlt h1
    have h9 : i = 9 → v ≤ 1 := by
      intro h
      subst h
      have : (2 : Nat) ^ (7 * 9) = 9223372036854775808 := by decide
      rw [this] at hlt
      omega
    by_cases hv : v < 128
    · rw [venc, dif_pos hv]
      have ec : (UInt8.ofNat v).toNat = v := by simp; omega
      have h0 : ¬ (i = 9 ∧ (UInt8.ofNat v).toNat > 1) := by rw [ec]; omega
      obtain ⟨t1, t2, t3⟩ := top_add hx hi h0
      show (if _ then _ else _) = _
      rw [if_neg h0, if_neg (by rw [ec]; omega), if_neg (by rw [ec]; omega), ec, Nat.mod_eq_of_lt hv]
      rfl
    · rw [venc, dif_neg hv]
      have ec : (UInt8.ofNat (v % 128 + 128)).toNat = v % 128 + 128 := by simp; omega
      have h0 : ¬ (i = 9 ∧ (UInt8.ofNat (v % 128 + 128)).toNat > 1) := by rw [ec]; omega
      obtain ⟨t1, t2, t3⟩ := top_add hx hi h0
      have e : x + (v % 128 + 128) % 128 * 2 ^ (7 * i) + v / 128 * 2 ^ (7 * (i + 1)) = x + v * 2 ^ (7 * i) := by
        rw [pow_next, ← Nat.mul_assoc, Nat.add_assoc, ← Nat.add_mul]
        congr 2
        omega
      show (if _ then _ else _) = _
      rw [if_neg h0, if_pos (by rw [ec]; omega)]
      show vgo _ _ (venc (v / 128) ++ r) = _
      rw [ih (v / 128) (by omega) r (t3 (by omega)) (by omega) (by rw [ec, e]; exact hlt) (by omega), ec, e, List.length_cons]
      congr 2
      omega
theorem vread_there {x : Nat} (h : x < 18446744073709551616) (r : Bytes) : vread (venc x ++ r) = some (x, (venc x).length) := by
  have := vgo_there x (i := 0) (x := 0) r (by decide) (by decide) (by simpa using h) (.inr rfl)
  rw [Nat.mul_zero, Nat.pow_zero, Nat.mul_one, Nat.zero_add, Nat.zero_add] at this
  exact this
def opEnc (o : DOp) : Bytes := (if o.1 then 1 else 0) :: (venc o.2.1.length ++ (o.2.1 ++ (if o.1 then venc o.2.2.length ++ o.2.2 else [])))
def opKind (o : DOp) : Nat := if o.1 = true then 1 else 0
theorem opKind_lt (o : DOp) : opKind o < 256 := by unfold opKind; split <;> omega
def opAppend (b : Bytes) (o : DOp) : Bytes × Int := if opOk o then (b ++ opEnc o, 0) else ([], 2)
theorem opCheck_zero {o : DOp} : opCheck o = 0 ↔ opOk o := by
  unfold opCheck; split <;> simp [*]
theorem opAppend_bad {b : Bytes} {o : DOp} (h : ¬ opCheck o = 0) : opAppend b o = ([], opCheck o) := by
  rw [opCheck_zero] at h
  unfold opAppend; rw [if_neg h, opCheck_bad h]
theorem opAppend_put {b : Bytes} {o : DOp} (h : ¬ ¬ opCheck o = 0) (hp : o.1 = true) : opAppend b o = (b ++ [UInt8.ofNat (opKind o)] ++ (venc o.2.1.length ++ o.2.1) ++ (venc o.2.2.length ++ o.2.2), 0) := by
  rw [Decidable.not_not, opCheck_zero] at h
  unfold opAppend opEnc opKind; rw [if_pos h, if_pos hp, if_pos hp, if_pos hp]; simp
theorem opAppend_del {b : Bytes} {o : DOp} (h : ¬ ¬ opCheck o = 0) (hp : o.1 = false) : opAppend b o = (b ++ [UInt8.ofNat (opKind o)] ++ (venc o.2.1.length ++ o.2.1), 0) := by
  rw [Decidable.not_not, opCheck_zero] at h
  unfold opAppend opEnc opKind; rw [if_pos h, if_neg (by simp [hp]), if_neg (by simp [hp]), if_neg (by simp [hp])]; simp
theorem venc_small {x : Nat} (h : x < 128) : (venc x).length = 1 := by rw [venc_last h]; rfl
theorem opEnc_len {o : DOp} (h : opOk o) : (opEnc o).length ≤ 60 := by
  obtain ⟨h1, h2, h3, h4⟩ := h
  have v1 := venc_small (x := o.2.1.length) (by omega)
  have v2 := venc_small (x := o.2.2.length) (by omega)
  unfold opEnc
  split <;> simp only [List.length_cons, List.length_append, List.length_nil] <;> omega
theorem opCheck_sizes {o : DOp} (h : ¬ ¬ opCheck o = 0) : o.2.1.length ≤ 16 ∧ o.2.2.length ≤ 32 := by
  rw [Decidable.not_not, opCheck_zero] at h
  exact ⟨h.2.1, h.2.2.1⟩
theorem opAppend_len (b : Bytes) (o : DOp) : (opAppend b o).1.length ≤ b.length + 60 := by
  unfold opAppend
  split
  · rename_i h; have := opEnc_len h; simp; omega
  · simp
theorem fnOk125 : fnOk Tryz.prog 125 = true := by kernel_rfl
theorem fnOk155 : fnOk Tryz.prog 155 = true := by kernel_rfl
theorem fnOk156 : fnOk Tryz.prog 156 = true := by kernel_rfl
theorem opKind_ok (W : World) {v0 : List Value} {d0 : DOp} (h0 : Rd TOp (wm W) v0 d0) : CallR Tryz.prog 156 [.agg v0.toArray] W (mnil) (fun v m' => v = .int .u8 ((opKind d0 : Nat) : Int)) := by
  obtain ⟨rfl, p0_1, p0_2⟩ := open_Op (x0 := d0.1) (x1 := d0.2.1) (x2 := d0.2.2) h0
  simp only [maxLen] at p0_1
  simp only [maxLen] at p0_2
  refine CallR.ofA (n := 5) Tryz.func156 rfl rfl rfl ?_
  refine VC.rs ?_
  refine VO.box (cs := [Value.bool d0.1, str (d0.2.1), str (d0.2.2)]) 102 rfl rfl rfl (fun g1 => ?_)
  refine VO.as ?_
  refine VO.k3 0 1 2 ?_
  refine VC.seq ?_
  refine VC.rs ?_
  refine VO.y rfl (.fa rfl tst64 rfl) ?_
  refine VO.y rfl (.ld1 102 rfl tk4 rfl (cellsAt_one rfl rfl)) ?_
  refine VO.k4 0 1 2 4 ?_
  refine VC.condB rfl (fun hc3 => ?_) (fun hc3 => ?_)
  · -- T
    refine VC.rs ?_
    refine VO.as ?_
    refine VO.kp [102, 0] [(102, mone g1 (.cells [Value.bool d0.1, str (d0.2.1), str (d0.2.2)].toArray 64 (0, 0))), (0, wm W)] ?_
    refine VO.k4 0 1 2 4 ?_
    refine VC.ret ?_
    refine outR ?_
    refine ⟨_, _, res_run (rs := [.tmp 2]) rfl (.tmp rfl .nil), fun W_ hI => out_of (l := []) hI [] rfl rfl (mle_refl _) (fun hS_ => ?_)⟩
    dsimp only [packV]
    all_goals (first | rfl | (unfold opKind; first | (rw [if_pos (by assumption)]; rfl) | (rw [if_neg (by simp [*])]; rfl)))
  · -- F
    refine VC.skip ?_
    refine outN ?_
    refine VC.rs ?_
    refine VO.as ?_
    refine VO.kp [102, 0] [(102, mone g1 (.cells [Value.bool d0.1, str (d0.2.1), str (d0.2.2)].toArray 64 (0, 0))), (0, wm W)] ?_
    refine VO.k4 0 1 2 4 ?_
    refine VC.ret ?_
    refine ⟨_, _, res_run (rs := [.tmp 2]) rfl (.tmp rfl .nil), fun W_ hI => out_of (l := []) hI [] rfl rfl (mle_refl _) (fun hS_ => ?_)⟩
    dsimp only [packV]
    all_goals (first | rfl | (unfold opKind; first | (rw [if_pos (by assumption)]; rfl) | (rw [if_neg (by simp [*])]; rfl)))
theorem opCounted_ok (W : World) {m0 : Mem} (hm : mle (m0) (wm W)) {v0 : Value} {d0 : List UInt8} (h0 : Ow (.sl .byte) m0 [v0] d0) (d1 : List UInt8) (h1 : d1.length ≤ maxLen) (e0 : d0.length ≤ 140737488352000) (e1 : d1.length ≤ 1000) : CallR Tryz.prog 155 [v0, str d1] W (m0) (fun v m' => ∃ (s0 : Value), v = s0 ∧ Ow (.sl .byte) m' [s0] (d0 ++ (venc d1.length ++ d1))) := by
  obtain ⟨A0, c0, e0_, l0, k0⟩ := h0.slice
  subst e0_
  simp only [maxLen] at k0
  have h1' := h1; simp only [maxLen] at h1'
  refine CallR.ofB (n := 12) hm Tryz.func155 rfl rfl rfl ?_
  refine VC.rs ?_
  refine VO.as ?_
  refine VO.k3 0 1 4 ?_
  refine VC.rs ?_
  refine VO.mv ?_
  refine VO.mv ?_
  refine VO.y rfl (.lenT rfl Tryz.underlying9) ?_
  refine VO.y rfl (.cvI rfl ⟨_, Tryz.underlying3⟩ Tryz.underlying163 (IntWalk.u64_in _ bd)) ?_
  refine VO.callN 101 rfl fnOk125 rfl (fun W hW => vAppend_ok W (OwnL.rd (Ow.ownl h0 rfl mnil) (hW.at (i := 1) rfl) (mle_nil _)) d1.length bd bd) (fun v1 m1 hv1 => ?_)
  obtain ⟨s1_0, rfl, f1_0⟩ := hv1
  have hfa2 := venc_len (x := d1.length) (by first | omega | exact or64 (by assumption) _)
  obtain ⟨A1_0, c1_0, eq1_0, l1_0, k1_0⟩ := f1_0.slice
  subst eq1_0
  simp only [maxLen] at k1_0
  refine VO.mv ?_
  obtain ⟨mo3, cs3, hM3, hA3, hC3⟩ := (Ow.ownl f1_0 rfl mnil)
  refine VO.app 101 rfl rfl rfl tsl97 tz5 rfl rfl hM3 hA3 (.str _ Tryz.underlying9 rfl) (byV_nice _) bdm bd (by decide) (fun v3 m3 hN3 => ?_)
  have ho3 : OwnL .byte m3 mnil v3 ((d0 ++ venc d1.length) ++ d1) := OwnL.more hC3 hN3 (rd_str _ _)
  obtain ⟨A3, c3, rfl, l3, k3⟩ := ho3.slice
  simp only [maxLen] at k3
  refine VO.as ?_
  refine VO.k3 0 1 4 ?_
  refine VC.ret ?_
  refine ⟨_, _, res_run (rs := [.tmp 4]) rfl (.tmp rfl .nil), fun W_ hI => out_of (l := [m3]) hI [101] rfl rfl (mle_refl _) (fun hS_ => ?_)⟩
  dsimp only [packV]
  have he0 : (d0 ++ (venc d1.length ++ d1) : Ty.Den (.sl .byte)) = (d0 ++ venc d1.length) ++ d1 := by first | rfl | (simp)
  refine ⟨Value.slice A3 (((d0 ++ venc d1.length) ++ d1).length) (c3), ?_, ?_⟩
  rotate_left
  · rw [he0]; exact (Ow.up (OwnL.ow ho3 rfl) (hS_.1 _ (.head _)))
  all_goals (first | rfl | (simp [*]; done))
theorem fin0_opAppend_ok {P : Prop} (h : P := by first | omega | (simp only [List.length_append, List.length_nil, List.length_cons, List.length_take, List.length_drop] at *; omega) | (have h_ := opCheck_sizes (o := d1) (by assumption); omega) | (have h_ := opCheck_sizes (o := d1) (by assumption); simp only [List.length_append, List.length_nil, List.length_cons, List.length_take, List.length_drop] at *; omega)) : P := h
theorem opAppend_ok (W : World) {v0 : Value} {d0 : List UInt8} (h0 : Rd (.sl .byte) (wm W) [v0] d0) {v1 : List Value} {d1 : DOp} (h1 : Rd TOp (wm W) v1 d1) (e0 : d0.length ≤ 140737488351500) : CallR Tryz.prog 126 [v0, .agg v1.toArray] W (mnil) (fun v m' => ∃ (s0 : Value), v = .tuple #[s0, .int .i64 ((opAppend d0 d1).2)] ∧ Ow (.sl .byte) m' [s0] ((opAppend d0 d1).1)) := by
  obtain ⟨A0, c0, rfl, l0, k0⟩ := h0.slice
  simp only [maxLen] at k0
  obtain ⟨rfl, p1_1, p1_2⟩ := open_Op (x0 := d1.1) (x1 := d1.2.1) (x2 := d1.2.2) h1
  simp only [maxLen] at p1_1
  simp only [maxLen] at p1_2
  refine CallR.ofA (n := 29) Tryz.func126 rfl rfl rfl ?_
  refine VC.rs ?_
  refine VO.box (cs := [Value.bool d1.1, str (d1.2.1), str (d1.2.2)]) 102 rfl rfl rfl (fun g1 => ?_)
  refine VO.as ?_
  refine VO.as ?_
  refine VO.k5 0 1 3 4 5 ?_
  refine VC.seq ?_
  refine VC.rs ?_
  refine VO.y rfl (.ldA 102 rfl tk64 rfl (cellsAt_one rfl rfl)) ?_
  refine VO.callN 103 rfl fnOk57 rfl (fun W hW => opCheck_ok W (Rd.mono h1 (hW.at (i := 0) rfl))) (fun v3 m3 hv3 => ?_)
  subst hv3
  refine VO.as ?_
  refine VO.k6 0 1 3 4 5 6 ?_
  refine VC.rs ?_
  refine VO.mv ?_
  refine VO.y rfl (.neq rfl rfl) ?_
  refine VO.kp [102, 0] [(102, mone g1 (.cells [Value.bool d1.1, str (d1.2.1), str (d1.2.2)].toArray 64 (0, 0))), (0, wm W)] ?_
  refine VO.k7 0 1 3 4 5 6 11 ?_
  refine VC.cond rfl (fun hc4 => ?_) (fun hc4 => ?_)
  · -- T
    refine VC.rs ?_
    refine VO.mv ?_
    refine VO.as ?_
    refine VO.as ?_
    refine VO.k7 0 1 3 4 5 6 11 ?_
    refine VC.ret ?_
    refine outR ?_
    refine ⟨_, _, res_run (rs := [.tmp 4, .tmp 5]) rfl (.tmp rfl (.tmp rfl .nil)), fun W_ hI => out_of (l := []) hI [] rfl rfl (mle_refl _) (fun hS_ => ?_)⟩
    dsimp only [packV]
    have he0 : ((opAppend d0 d1).1 : Ty.Den (.sl .byte)) = [] := by first | rfl | (first | (rw [opAppend_bad (by assumption)]; done) | (rw [opAppend_put (by assumption) (by assumption)]; done) | (rw [opAppend_del (by assumption) (by assumption)]; done))
    refine ⟨Value.slice none (0) (0), ?_, ?_⟩
    rotate_left
    · rw [he0]; exact (Ow.nil _ _)
    all_goals (first | rfl | (first | (rw [opAppend_bad (by assumption)]; done) | (rw [opAppend_put (by assumption) (by assumption)]; done) | (rw [opAppend_del (by assumption) (by assumption)]; done)))
  · -- F
    refine VC.skip ?_
    refine outN ?_
    refine VC.seq ?_
    refine VC.regD _ 8 [(0, true), (2, true), (6, true), (7, true), (1, false), (3, false), (4, false), (5, false)] follows (by kernel_rfl) (fun _ h => h.sub [102, 0]) ?_
    refine VD.y rfl rfl (.inl rfl) (.mv rfl) ?_
    refine VD.y rfl rfl (.inl rfl) (.ldA 102 rfl tk64 rfl (cellsAt_one rfl rfl)) ?_
    refine VD.y rfl rfl (.inl rfl) (.fa rfl tst64 rfl) ?_
    refine VD.y rfl rfl (.inl rfl) (.ld1 102 rfl tk9 rfl (cellsAt_one rfl rfl)) ?_
    refine VD.inv _ (fun _ h => h.nilc 106) ?_
    obtain ⟨mo5, cs5, hM5, hA5, hC5⟩ := (OwnL.nil .byte mnil mnil)
    obtain ⟨all5, hS5, hR5⟩ := Rd.srcI (P := Tryz.prog) (h0) Tryz.underlying97
    refine VD.app 106 rfl rfl rfl rfl tsl97 tz5 rfl rfl hM5 hA5 (hS5 _ 0 rfl) hR5.nice (by simp only [maxLen]; (exact fin0_opAppend_ok)) (by exact fin0_opAppend_ok) (by decide) (fun _ _ h => h.sub [102, 0]) (fun v5 m5 hN5 => ?_)
    have ho5 : OwnL .byte m5 mnil v5 (d0) := OwnL.more hC5 hN5 (All2c.mono hR5 fun _ _ h => Rd.flat rfl h _)
    obtain ⟨A5, c5, rfl, l5, k5⟩ := ho5.slice
    simp only [maxLen] at k5
    refine VD.callN 107 rfl rfl (.inl rfl) fnOk156 rfl (fun _ h => h.sub [102, 0]) (fun W hW => opKind_ok W (Rd.mono h1 (hW.at (i := 0) rfl))) (fun v7 m7 hv7 => ?_)
    subst hv7
    have hfa8 := opKind_lt d1
    refine VD.bsl (cs := [Value.int .u8 (((opKind d1 : Nat) : Int))]) 110 rfl rfl rfl tsl97 tz5 rfl rfl (fun _ h => h.sub [102, 0]) (fun g9 => ?_)
    obtain ⟨mo11, cs11, hM11, hA11, hC11⟩ := ho5
    refine VD.app 106 rfl rfl rfl rfl tsl97 tz5 rfl rfl hM11 hA11 (.row 110 _ _ _ 1 1 _ _ Tryz.underlying97 rfl (cellsAt_one rfl rfl)) (by simp [Value.oneCell']) (by simp only [maxLen]; (exact fin0_opAppend_ok)) (by exact fin0_opAppend_ok) (by decide) (fun _ _ h => h.sub [102, 0]) (fun v11 m11 hN11 => ?_)
    have ho11 : OwnL .byte m11 mnil v11 (d0 ++ [UInt8.ofNat (opKind d1)]) := OwnL.one hC11 hN11 (rd_byteN (by exact fin0_opAppend_ok))
    obtain ⟨A11, c11, rfl, l11, k11⟩ := ho11.slice
    simp only [maxLen] at k11
    refine VD.nil rfl ?_ rfl
    refine VO.call 106 rfl fnOk155 rfl rfl (fun W hW => opCounted_ok W (hW.at (i := 106) rfl) (OwnL.ow ho11 rfl) d1.2.1 (by simp only [maxLen]; (exact fin0_opAppend_ok)) (by exact fin0_opAppend_ok) (by exact fin0_opAppend_ok)) (fun v12 m12 hv12 => ?_)
    obtain ⟨s12_0, rfl, f12_0⟩ := hv12
    have hfa13 := venc_len (x := d1.2.1.length) (by omega)
    obtain ⟨A12_0, c12_0, eq12_0, l12_0, k12_0⟩ := f12_0.slice
    subst eq12_0
    simp only [maxLen] at k12_0
    refine VO.as ?_
    refine VO.k8 0 1 3 4 5 6 7 11 ?_
    refine outN ?_
    refine VC.seq ?_
    refine VC.rs ?_
    refine VO.y rfl (.fa rfl tst64 rfl) ?_
    refine VO.y rfl (.ld1 102 rfl tk4 rfl (cellsAt_one rfl rfl)) ?_
    refine VO.k9 0 1 3 4 5 6 7 11 23 ?_
    refine VC.condB rfl (fun hc14 => ?_) (fun hc14 => ?_)
    · -- FT
      refine VC.reg ?_
      refine VO.mv ?_
      refine VO.y rfl (.fa rfl tst64 rfl) ?_
      refine VO.y rfl (.ld1 102 rfl tk9 rfl (cellsAt_one rfl rfl)) ?_
      refine VO.call 106 rfl fnOk155 rfl rfl (fun W hW => opCounted_ok W (hW.at (i := 106) rfl) (OwnL.ow (Ow.ownl f12_0 rfl mnil) rfl) d1.2.2 (by simp only [maxLen]; (exact fin0_opAppend_ok)) (by exact fin0_opAppend_ok) (by exact fin0_opAppend_ok)) (fun v15 m15 hv15 => ?_)
      obtain ⟨s15_0, rfl, f15_0⟩ := hv15
      have hfa16 := venc_len (x := d1.2.2.length) (by omega)
      obtain ⟨A15_0, c15_0, eq15_0, l15_0, k15_0⟩ := f15_0.slice
      subst eq15_0
      simp only [maxLen] at k15_0
      refine VO.as ?_
      refine VO.kp [106, 102, 0] [(106, m15), (102, mone g1 (.cells [Value.bool d1.1, str (d1.2.1), str (d1.2.2)].toArray 64 (0, 0))), (0, wm W)] ?_
      refine VO.k9 0 1 3 4 5 6 7 11 23 ?_
      refine outN ?_
      refine VC.rs ?_
      refine VO.mv ?_
      refine VO.as ?_
      refine VO.as ?_
      refine VO.k9 0 1 3 4 5 6 7 11 23 ?_
      refine VC.ret ?_
      refine ⟨_, _, res_run (rs := [.tmp 4, .tmp 5]) rfl (.tmp rfl (.tmp rfl .nil)), fun W_ hI => out_of (l := [m15]) hI [106] rfl rfl (mle_refl _) (fun hS_ => ?_)⟩
      dsimp only [packV]
      have he0 : ((opAppend d0 d1).1 : Ty.Den (.sl .byte)) = ((d0 ++ [UInt8.ofNat (opKind d1)]) ++ (venc d1.2.1.length ++ d1.2.1)) ++ (venc d1.2.2.length ++ d1.2.2) := by first | rfl | (first | (rw [opAppend_bad (by assumption)]; done) | (rw [opAppend_put (by assumption) (by assumption)]; done) | (rw [opAppend_del (by assumption) (by assumption)]; done))
      refine ⟨Value.slice A15_0 ((((d0 ++ [UInt8.ofNat (opKind d1)]) ++ (venc d1.2.1.length ++ d1.2.1)) ++ (venc d1.2.2.length ++ d1.2.2)).length) (c15_0), ?_, ?_⟩
      rotate_left
      · rw [he0]; exact (Ow.up (OwnL.ow (Ow.ownl f15_0 rfl mnil) rfl) (hS_.1 _ (.head _)))
      all_goals (first | rfl | (first | (rw [opAppend_bad (by assumption)]; done) | (rw [opAppend_put (by assumption) (by assumption)]; done) | (rw [opAppend_del (by assumption) (by assumption)]; done)))
    · -- FF
      refine VC.skip ?_
      refine outN ?_
      refine VC.rs ?_
      refine VO.mv ?_
      refine VO.as ?_
      refine VO.as ?_
      refine VO.kp [106, 102, 0] [(106, m12), (102, mone g1 (.cells [Value.bool d1.1, str (d1.2.1), str (d1.2.2)].toArray 64 (0, 0))), (0, wm W)] ?_
      refine VO.k9 0 1 3 4 5 6 7 11 23 ?_
      refine VC.ret ?_
      refine ⟨_, _, res_run (rs := [.tmp 4, .tmp 5]) rfl (.tmp rfl (.tmp rfl .nil)), fun W_ hI => out_of (l := [m12]) hI [106] rfl rfl (mle_refl _) (fun hS_ => ?_)⟩
      dsimp only [packV]
      have he0 : ((opAppend d0 d1).1 : Ty.Den (.sl .byte)) = (d0 ++ [UInt8.ofNat (opKind d1)]) ++ (venc d1.2.1.length ++ d1.2.1) := by first | rfl | (first | (rw [opAppend_bad (by assumption)]; done) | (rw [opAppend_put (by assumption) (by assumption)]; done) | (rw [opAppend_del (by assumption) (by assumption)]; done))
      refine ⟨Value.slice A12_0 (((d0 ++ [UInt8.ofNat (opKind d1)]) ++ (venc d1.2.1.length ++ d1.2.1)).length) (c12_0), ?_, ?_⟩
      rotate_left
      · rw [he0]; exact (Ow.up (OwnL.ow (Ow.ownl f12_0 rfl mnil) rfl) (hS_.1 _ (.head _)))
      all_goals (first | rfl | (first | (rw [opAppend_bad (by assumption)]; done) | (rw [opAppend_put (by assumption) (by assumption)]; done) | (rw [opAppend_del (by assumption) (by assumption)]; done)))
theorem Inv.sbK {w0 W : World} {Ω ΩS : Ctx} (l : List Nat) (h : Inv w0 Ω W) (e : csub Ω l = ΩS := by kernel_rfl) : Inv w0 ΩS W := e ▸ h.sub l
theorem VD.kp {P : Program} {n : Nat} {w0 : World} {σ : Env} {Ω ΩS : Ctx} {ops : Array Oper} {K : Env → Ctx → Prop} {t : Nat} {l : List (Nat × Bool)} (ids : List Nat) (Ω' : Ctx) (h : VD P n w0 ops ΩS t l σ Ω' K) (hk : csub Ω ids = Ω' := by kernel_rfl) : VD P n w0 ops ΩS t l σ Ω K :=
  VD.inv _ (fun W hW => hk ▸ hW.sub ids) h
section
variable (P : Program) (n : Nat) (w0 : World)
def VE (ops : Array Oper) (ΩS : Ctx) (t : Nat) (listed : Array Bool) (m : Nat) (σ : Env) (Ω : Ctx) (K : Env → Ctx → Prop) : Prop :=
  ∀ Q : Exit → Act → World → Prop, (∀ c a w, ¬ Q (.panic c) a w) → (∀ σ' Ω' a W, K σ' Ω' → EnvOk n σ' a → Inv w0 Ω' W → Q .normal a W) →
    ∀ a W, EnvOk n σ a → Inv w0 Ω W → Inv w0 (curS ops ΩS listed) W → HeadInv .any ops t listed → Region.noSelect ops = true → (t < ops.size → Region.sinkB .any ops t = true ∧ Region.chainB .any ops t = true) → wpAnyT P ops Q (fun L w => Inv w0 (curS ops ΩS L) w) t (m + (ops.size - t)) listed a W
end
section
variable {P : Program} {n : Nat} {w0 : World} {σ : Env} {Ω ΩS : Ctx} {ops : Array Oper} {t : Nat} {K : Env → Ctx → Prop}
theorem VE.y {listed : Array Bool} {m : Nat} (i : Nat) {d : Nat} {op : Op} {ty : TypeId} {pos : String} {af : Array Edge} {gd : Option (Nat × Bool)} {v : Value} (hd : Nat.blt d n = true) (ho : ops[i]? = some ⟨some d, op, ty, pos, af, gd⟩)
    (hg : gd = none ∨ ∃ j b, gd = some (j, b) ∧ gyes σ ops j b) (hk : (Nat.blt i t && (Region.ready .any ops listed).contains i && Region.free .any ops listed i) = true) (hy : Yld P n w0 σ (lowS ΩS) ⟨some d, op, ty, pos, af, gd⟩ v) (h : VE P n w0 ops ΩS t (listed.setIfInBounds i true) m ((d, v) :: σ) Ω K) : VE P n w0 ops ΩS t listed (m + 1) σ Ω K :=
  fun Q hn hQ a W he hi hiS hh hsel hsc => by
    simp only [Bool.and_eq_true] at hk
    obtain ⟨⟨hit, hr⟩, hf⟩ := hk
    have hit' : i < t := by simpa using hit
    have hr' : i ∈ Region.ready .any ops listed := by simpa using hr
    have hyi : YieldsIf P ops (Inv w0 (lowS ΩS)) ⟨some d, op, ty, pos, af, gd⟩ v a := by
      refine .inl ⟨?_, fun w hw => hy a w he hw⟩
      rcases hg with rfl | ⟨j, b, rfl, hg⟩
      · simp [Region.wanted]
      · simp [Region.wanted, yielded_of he hg]
    rw [show m + 1 + (ops.size - t) = (m + (ops.size - t)) + 1 by omega]
    have hns : isSt ops i = false := by unfold isSt; rw [ho]
    exact wpAnyT_first ho hit' (Nat.lt_or_ge t ops.size) (Region.noSelect_spec hsel) (fun _ _ _ _ q => q.curLow) (fun L w => by rw [curS_set hns]) (fun c a w hq => absurd hq (hn c _ w)) (fun h => (hsc h).1) (fun h => (hsc h).2) _ listed a W hh (Region.free_spec ho hf) hr' hyi hiS
      (h Q hn hQ _ W (he.put hd v) hi (by rw [curS_set hns]; exact hiS) (hh.set hr' hit') hsel hsc)
theorem VE.yH {listed : Array Bool} {m : Nat} (i : Nat) {d : Nat} {op : Op} {ty : TypeId} {pos : String} {af : Array Edge} {gd : Option (Nat × Bool)} {v : Value} (hd : Nat.blt d n = true) (ho : ops[i]? = some ⟨some d, op, ty, pos, af, gd⟩)
    (hg : gd = none ∨ ∃ j b, gd = some (j, b) ∧ gyes σ ops j b) (hk : (Nat.blt i t && (Region.ready .any ops listed).contains i && Region.free .any ops listed i) = true) (hp : precB ops i = true) (hy : Yld P n w0 σ ΩS ⟨some d, op, ty, pos, af, gd⟩ v) (h : VE P n w0 ops ΩS t (listed.setIfInBounds i true) m ((d, v) :: σ) Ω K) : VE P n w0 ops ΩS t listed (m + 1) σ Ω K :=
  fun Q hn hQ a W he hi hiS hh hsel hsc => by
    simp only [Bool.and_eq_true] at hk
    obtain ⟨⟨hit, hr⟩, hf⟩ := hk
    have hit' : i < t := by simpa using hit
    have hr' : i ∈ Region.ready .any ops listed := by simpa using hr
    have hyi : YieldsIf P ops (Inv w0 ΩS) ⟨some d, op, ty, pos, af, gd⟩ v a := by
      refine .inl ⟨?_, fun w hw => hy a w he hw⟩
      rcases hg with rfl | ⟨j, b, rfl, hg⟩
      · simp [Region.wanted]
      · simp [Region.wanted, yielded_of he hg]
    rw [show m + 1 + (ops.size - t) = (m + (ops.size - t)) + 1 by omega]
    have hns : isSt ops i = false := by unfold isSt; rw [ho]
    exact wpAnyT_first ho hit' (Nat.lt_or_ge t ops.size) (Region.noSelect_spec hsel) (fun L w hhL hu q => by unfold curS at q; rw [prec_none hp hhL hu] at q; exact q) (fun L w => by rw [curS_set hns]) (fun c a w hq => absurd hq (hn c _ w)) (fun h => (hsc h).1) (fun h => (hsc h).2) _ listed a W hh (Region.free_spec ho hf) hr' hyi hiS
      (h Q hn hQ _ W (he.put hd v) hi (by rw [curS_set hns]; exact hiS) (hh.set hr' hit') hsel hsc)
def AllL {α : Type} (p : α → Prop) : List α → Prop
  | [] => True
  | a :: r => p a ∧ AllL p r
theorem AllL.mem {α : Type} {p : α → Prop} : ∀ {l : List α}, AllL p l → ∀ a ∈ l, p a
  | _ :: _, ⟨h, _⟩, _, .head _ => h
  | _ :: _, ⟨_, h⟩, _, .tail _ ha => h.mem _ ha
def regEB (ops : Array Oper) (t : Nat) : Bool := Nat.ble t ops.size && Region.noSelect ops && (Nat.ble ops.size t || (Region.sinkB .any ops t && Region.chainB .any ops t))
theorem VE.start {l : List Oper} (ΩS : Ctx) (t : Nat) (hs : regEB l.toArray t = true) (hΩ : ∀ W, Inv w0 Ω W → Inv w0 ΩS W) (h : VE P n w0 l.toArray ΩS t (Array.replicate l.toArray.size false) t σ Ω K) (Q : Exit → Act → World → Prop) (hn : ∀ c a w, ¬ Q (.panic c) a w)
    (hQ : ∀ σ' Ω' a W, K σ' Ω' → EnvOk n σ' a → Inv w0 Ω' W → Q .normal a W) (a : Act) (W : World) (he : EnvOk n σ a) (hi : Inv w0 Ω W) : wpAny P .any l.toArray Q l.toArray.size (Array.replicate l.toArray.size false) a W := by
  simp only [regEB, Bool.and_eq_true, Bool.or_eq_true] at hs
  obtain ⟨⟨h0, h1⟩, h2⟩ := hs
  have hle := Nat.le_of_ble_eq_true h0
  have := h Q hn hQ a W he hi (hΩ W hi).cur (HeadInv.start _ _) h1 (fun hlt => by
    rcases h2 with h2 | h2
    · have := Nat.le_of_ble_eq_true h2; omega
    · exact h2)
  rw [show t + (l.toArray.size - t) = l.toArray.size by omega] at this
  exact wpAny_of_T _ _ _ _ this
theorem VC.regE {id : Nat} {l : List Oper} {R : Exit → Env → Ctx → Prop} (ΩS : Ctx) (t : Nat) (hm : P.follows .mixedOrders = true) (hs : regEB l.toArray t = true) (hΩ : ∀ W, Inv w0 Ω W → Inv w0 ΩS W)
    (h : VE P n w0 l.toArray ΩS t (Array.replicate l.toArray.size false) t σ Ω (R .normal)) : VC P n w0 (.region id l.toArray true) R σ Ω :=
  fun Q hQ a W he hi => by
    let Q' : Exit → Act → World → Prop := fun e a w => match e with | .normal => Q .normal a w | _ => False
    refine wp_mono (Q := Q') ?_ (fun e a w hq => by cases e <;> first | exact hq | exact hq.elim)
    exact wp_region_any hm (h.start ΩS t hs hΩ Q' (fun _ _ _ hq => hq) (fun σ' Ω' a W hk => hQ _ σ' Ω' a W hk) a W.drew he hi.drew)
theorem VX.regE {id : Nat} {l : List Oper} {ρ d : Option Nat} {R : Option Nat → Exit → Env → Ctx → Prop} (ΩS : Ctx) (t : Nat) (hm : P.follows .mixedOrders = true) (hs : regEB l.toArray t = true) (hΩ : ∀ W, Inv w0 Ω W → Inv w0 ΩS W)
    (h : VE P n w0 l.toArray ΩS t (Array.replicate l.toArray.size false) t σ Ω (R d .normal)) (hnd : noDefer l.toArray = true := by kernel_rfl) : VX P n w0 ρ (.region id l.toArray true) R d σ Ω :=
  fun Q hQ a W he hi => by
    let Q' : Exit → Act → World → Prop := fun e a w => e = .normal ∧ ∃ σ' Ω', R d .normal σ' Ω' ∧ EnvOk n σ' a ∧ Inv w0 Ω' w
    have hA := h.start ΩS t hs hΩ Q' (fun _ _ _ hq => by cases hq.1) (fun σ' Ω' a W hk he hi => ⟨rfl, σ', Ω', hk, he, hi⟩) a W.drew he hi.drew
    refine wpIn_region_draw fun t' => ops_in hnd (Q := Q') (fun _ _ _ q => by cases q.1) (fun _ _ q => by cases q.1) (fun a w ⟨_, σ', Ω', hk, he, hi⟩ => hQ _ _ σ' Ω' a w hk he hi) _ a _ ?_
    simp only [Region.schedule, hm, Bool.true_or, if_true]
    exact wpAny_sound _ t' _ a _ hA
end
section
variable {P : Program} {n : Nat} {w0 : World} {σ : Env} {Ω ΩS : Ctx} {ops : Array Oper} {K : Env → Ctx → Prop}
theorem VD.store {tt q : Nat} {ss : List (Nat × Bool)} {ty : TypeId} {pos : String} {af : Array Edge} {t : TypeId} {x y : Operand} {g off : Nat} {v : Value} {k : Nat} (i : Nat) {c : Array Value} {E : TypeId} {c' : List Value}
    (ho : ops[q]? = some ⟨none, .store t x y, ty, pos, af, none⟩)
    (hx : ev σ x = some (.pointer (some ⟨g, off, none⟩))) (hy : ev σ y = some v) (ht : tk P t = some (some k) ∨ (tk P t = some none ∧ k = 1)) (hk : Nat.beq v.cells.size k = true) (hn : nice v = true)
    (hm : cget Ω i = some (mone g (.cells c E (0, 0)))) (hl : Nat.ble (off + k) c.size = true) (hc : splice c.toList off v.cells.toList = c')
    (hS : ∀ W, Inv w0 (cset Ω i (mone g (.cells c'.toArray E (0, 0)))) W → Inv w0 ΩS W)
    (h : VD P n w0 ops ΩS tt ss σ (cset Ω i (mone g (.cells c'.toArray E (0, 0)))) K) : VD P n w0 ops ΩS tt ((q, false) :: ss) σ Ω K :=
  VD.s (fun _ => σ) ho (fun _ _ he => he) (.inl rfl) (Stp.store i hx hy ht hk hn hm (mone_self _ _) hl) (fun _ _ ⟨_, hΩ⟩ W hW => hS W (by rw [hΩ, mset_one, hc] at hW; exact hW)) (fun _ _ ⟨_, hΩ⟩ => by rw [hΩ, mset_one, hc]; exact h)
theorem VD.storeH {tt q : Nat} {ss : List (Nat × Bool)} {ty : TypeId} {pos : String} {af : Array Edge} {t : TypeId} {x y : Operand} {g off : Nat} {v : Value} {k : Nat} (i : Nat) {c : Array Value} {E : TypeId} {c' : List Value}
    (ho : ops[q]? = some ⟨none, .store t x y, ty, pos, af, none⟩)
    (hx : ev σ x = some (.pointer (some ⟨g, off, none⟩))) (hy : ev σ y = some v) (ht : tk P t = some (some k) ∨ (tk P t = some none ∧ k = 1)) (hk : Nat.beq v.cells.size k = true) (hn : nice v = true)
    (hm : cget Ω i = some (mone g (.cells c E (0, 0)))) (hl : Nat.ble (off + k) c.size = true) (hc : splice c.toList off v.cells.toList = c')
    (hS : ∀ W, Inv w0 (cset Ω i (mone g (.cells c'.toArray E (0, 0)))) W → Inv w0 (lowS ΩS) W)
    (h : VD P n w0 ops (lowS ΩS) tt ss σ (cset Ω i (mone g (.cells c'.toArray E (0, 0)))) K) : VD P n w0 ops ΩS tt ((q, false) :: ss) σ Ω K :=
  VD.sH (fun _ => σ) ho (fun _ _ he => he) rfl (by unfold isSt; rw [ho]) (Stp.store i hx hy ht hk hn hm (mone_self _ _) hl) (fun _ _ ⟨_, hΩ⟩ W hW => hS W (by rw [hΩ, mset_one, hc] at hW; exact hW)) (fun _ _ ⟨_, hΩ⟩ => by rw [hΩ, mset_one, hc]; exact h)
end
/-- what a slice of one's own was, is still to be read -/
def KeptA (sz : Nat) (m : Mem) (v : Value) (len : Nat) (cs : List Value) : Prop := ∃ A cap, v = .slice A len cap ∧ len ≤ cap ∧ cap ≤ maxLen ∧ ((len = 0 ∧ cs = []) ∨ ∃ g off, A = some ⟨g, off, none⟩ ∧ cellsAt m g off (len * sz) cs)
theorem KeptA.rd {e : Ty} {m : Mem} {A : Option Addr} {c : Nat} {cs : List Value} {xs : List e.Den} (h : KeptA e.sz m (.slice A xs.length c) xs.length cs) (hc : All2c (Rd e m) cs xs) : Rd (.sl e) m [.slice A xs.length c] xs := by
  obtain ⟨A', c', h1, h2, h3, h4⟩ := h
  simp only [Value.slice.injEq, true_and] at h1
  obtain ⟨rfl, rfl⟩ := h1
  refine ⟨_, _, rfl, h2, h3, ?_⟩
  rcases h4 with ⟨h4, _⟩ | ⟨g, off, h4, h5⟩
  · exact .inl h4
  · exact .inr ⟨g, off, cs, h4, h5, hc⟩
section
variable (P : Program) (n : Nat) (w0 : World)
/-- operation i comes up next (m more, and the tail, behind it) -/
def VI (ops : Array Oper) (ΩS : Ctx) (t : Nat) (listed : Array Bool) (m i : Nat) (σ : Env) (Ω : Ctx) (K : Env → Ctx → Prop) : Prop :=
  ∀ Q : Exit → Act → World → Prop, (∀ c a w, ¬ Q (.panic c) a w) → (∀ σ' Ω' a W, K σ' Ω' → EnvOk n σ' a → Inv w0 Ω' W → Q .normal a W) →
    ∀ a W, EnvOk n σ a → Inv w0 Ω W → HeadInv .any ops t listed → Region.noSelect ops = true → (t < ops.size → Region.sinkB .any ops t = true ∧ Region.chainB .any ops t = true) → i ∈ Region.ready .any ops listed → i < t →
    wpOp P ops Q i (fun a' w' => (i < t → Inv w0 (curS ops ΩS (listed.setIfInBounds i true)) w') ∧ wpAnyT P ops Q (fun L w => Inv w0 (curS ops ΩS L) w) t (m + (ops.size - t)) (listed.setIfInBounds i true) a' w') a W
end
section
variable {P : Program} {n : Nat} {w0 : World} {σ : Env} {Ω ΩS : Ctx} {ops : Array Oper} {t : Nat} {K : Env → Ctx → Prop} {listed : Array Bool} {m : Nat}
def nextB (ops : Array Oper) (t : Nat) (listed : Array Bool) (is : List Nat) : Bool := Region.ready .any ops listed == is && is.all (fun i => Nat.blt i t) && !is.isEmpty
theorem VE.tree (is : List Nat) (hr : nextB ops t listed is = true) (h : AllL (fun i => VI P n w0 ops ΩS t listed m i σ Ω K) is) : VE P n w0 ops ΩS t listed (m + 1) σ Ω K :=
  fun Q hn hQ a W he hi hiS hh hsel hsc => by
    simp only [nextB, Bool.and_eq_true, beq_iff_eq, List.all_eq_true, Bool.not_eq_true'] at hr
    obtain ⟨⟨h1, h2⟩, h3⟩ := hr
    rw [show m + 1 + (ops.size - t) = (m + (ops.size - t)) + 1 by omega]
    refine ⟨fun h0 => (by rw [h1] at h0; rw [h0] at h3; cases h3), fun j hj => ?_⟩
    have hj' := hj
    rw [h1] at hj'
    exact h.mem j hj' Q hn hQ a W he hi hh hsel hsc hj (by simpa using h2 j hj')
theorem VE.nil {l : List Oper} (ho : okHead.okTail ops (ops.size - t) t listed = true) (hl : ops.toList.drop t = l) (h : VO P n w0 ops l σ Ω K) (ht : Nat.ble t ops.size = true) : VE P n w0 ops ΩS t listed 0 σ Ω K :=
  fun Q _ hQ a W he hi _ hh _ _ => by
    have htl := Nat.le_of_ble_eq_true ht
    subst hl
    have := wpAnyT_tail (P := P) (Q := Q) (S := fun L w => Inv w0 (curS ops ΩS L) w) (ops.size - t) t listed a W ho (Nat.le_refl _) (by omega) (h Q hQ a W he hi)
    simpa using this
theorem VE.inv (Ω' : Ctx) (hs : ∀ W, Inv w0 Ω W → Inv w0 Ω' W) (h : VE P n w0 ops ΩS t listed m σ Ω' K) : VE P n w0 ops ΩS t listed m σ Ω K :=
  fun Q hn hQ a W he hi => h Q hn hQ a W he (hs W hi)
theorem VI.inv {i : Nat} (Ω' : Ctx) (hs : ∀ W, Inv w0 Ω W → Inv w0 Ω' W) (h : VI P n w0 ops ΩS t listed m i σ Ω' K) : VI P n w0 ops ΩS t listed m i σ Ω K :=
  fun Q hn hQ a W he hi => h Q hn hQ a W he (hs W hi)
theorem VE.gather (k : Nat) (ids : List Nat) {l : List Mem} (hg : cgets Ω ids = some l) (h : Seps (muns l) l → VE P n w0 ops ΩS t listed m σ ((k, muns l) :: cdels Ω ids) K) : VE P n w0 ops ΩS t listed m σ Ω K :=
  fun Q hn hQ a W he hi => h (hi.gather k hg).2 Q hn hQ a W he (hi.gather k hg).1
theorem VI.gather {i : Nat} (k : Nat) (ids : List Nat) {l : List Mem} (hg : cgets Ω ids = some l) (h : Seps (muns l) l → VI P n w0 ops ΩS t listed m i σ ((k, muns l) :: cdels Ω ids) K) : VI P n w0 ops ΩS t listed m i σ Ω K :=
  fun Q hn hQ a W he hi => h (hi.gather k hg).2 Q hn hQ a W he (hi.gather k hg).1
theorem VE.kp (ids : List Nat) (Ω' : Ctx) (h : VE P n w0 ops ΩS t listed m σ Ω' K) (hk : csub Ω ids = Ω' := by kernel_rfl) : VE P n w0 ops ΩS t listed m σ Ω K :=
  VE.inv _ (fun W hW => hk ▸ hW.sub ids) h
theorem VI.s {i : Nat} {o : Oper} {Φ : Value → Ctx → Prop} (σ' : Value → Env) (ho : ops[i]? = some o) (hσ : ∀ v a, EnvOk n σ a → EnvOk n (σ' v) (a.put o.dst v))
    (hg : o.guard = none ∨ ∃ j b, o.guard = some (j, b) ∧ gyes σ ops j b) (hs : Stp P n w0 σ Ω o Φ) (hS : ∀ v Ω', Φ v Ω' → ∀ W, Inv w0 Ω' W → Inv w0 ΩS W)
    (h : ∀ v Ω', Φ v Ω' → VE P n w0 ops ΩS t (listed.setIfInBounds i true) m (σ' v) Ω' K) : VI P n w0 ops ΩS t listed m i σ Ω K :=
  fun Q hn hQ a W he hi hh hsel hsc hr' hit' => by
    unfold wpOp
    simp only [ho]
    have hw : Region.wanted o (yielded ops a.tmps) = true := by
      rcases hg with hg | ⟨k, b, hg, hy⟩
      · simp [Region.wanted, hg]
      · simp [Region.wanted, hg, yielded_of he hy]
    rw [if_pos hw]
    exact .inl (hs a W he hi _ Q fun v Ω' W' hv hi' => ⟨fun _ => (hS v Ω' hv W' hi').cur, h v Ω' hv Q hn hQ _ W' (hσ v a he) hi' (hS v Ω' hv W' hi').cur (hh.set hr' hit') hsel hsc⟩)
theorem VI.sH {i : Nat} {o : Oper} {Φ : Value → Ctx → Prop} (σ' : Value → Env) (ho : ops[i]? = some o) (hσ : ∀ v a, EnvOk n σ a → EnvOk n (σ' v) (a.put o.dst v))
    (hg : o.guard = none) (hst : isSt ops i = true) (hs : Stp P n w0 σ Ω o Φ) (hS : ∀ v Ω', Φ v Ω' → ∀ W, Inv w0 Ω' W → Inv w0 (lowS ΩS) W)
    (h : ∀ v Ω', Φ v Ω' → VE P n w0 ops (lowS ΩS) t (listed.setIfInBounds i true) m (σ' v) Ω' K) : VI P n w0 ops ΩS t listed m i σ Ω K :=
  fun Q hn hQ a W he hi hh hsel hsc hr' hit' => by
    unfold wpOp
    simp only [ho]
    have hw : Region.wanted o (yielded ops a.tmps) = true := by simp [Region.wanted, hg]
    rw [if_pos hw]
    have hsz : i < listed.size := by rw [hh.size]; exact (Array.getElem?_eq_some_iff.1 ho).1
    have hany : anySt ops (listed.setIfInBounds i true) = true := List.any_eq_true.2 ⟨i, List.mem_range.2 (Array.getElem?_eq_some_iff.1 ho).1, by rw [hst]; simp [hsz]⟩
    exact .inl (hs a W he hi _ Q fun v Ω' W' hv hi' => ⟨fun _ => by unfold curS; rw [hany]; exact hS v Ω' hv W' hi', wpAnyT_low _ _ _ _ hany (h v Ω' hv Q hn hQ _ W' (hσ v a he) hi' (by rw [curS_lowS]; exact hS v Ω' hv W' hi') (hh.set hr' hit') hsel hsc)⟩)
theorem VI.callN {i : Nat} {listed : Array Bool} {mm : Nat} {d : Nat} {f : FuncId} {xs : List Operand} {ats : Array TypeId} {ty : TypeId} {pos : String} {af : Array Edge} {gd : Option (Nat × Bool)} {vs : List Value} {Post : Value → Mem → Prop}
    (j : Nat) (hd : Nat.blt d n = true) (ho : ops[i]? = some ⟨some d, .call { callee := .value (.func f), args := xs.toArray, argTypes := ats }, ty, pos, af, gd⟩) (hg : gd = none ∨ ∃ j b, gd = some (j, b) ∧ gyes σ ops j b) (hf : fnOk P f = true)
    (ha : evs σ xs = some vs) (hS : ∀ W, Inv w0 Ω W → Inv w0 ΩS W) (hc : ∀ W, Inv w0 Ω W → CallR P f vs W mnil Post) (h : ∀ v m', Post v m' → VE P n w0 ops ΩS t (listed.setIfInBounds i true) mm ((d, v) :: σ) ((j, m') :: Ω) K) : VI P n w0 ops ΩS t listed mm i σ Ω K :=
  VI.s (fun v => (d, v) :: σ) ho (fun v _ he => he.put hd v) hg (Stp.callN j hf ha hc) (fun _ _ ⟨_, _, hΩ⟩ W hW => hS W (by subst hΩ; exact hW.tl)) (fun v _ ⟨m', hp, hΩ⟩ => hΩ ▸ h v m' hp)
theorem VI.call {t : Nat} {i : Nat} {listed : Array Bool} {mm : Nat} {d : Nat} {f : FuncId} {xs : List Operand} {ats : Array TypeId} {ty : TypeId} {pos : String} {af : Array Edge} {gd : Option (Nat × Bool)} {vs : List Value} {Post : Value → Mem → Prop}
    (j : Nat) {m : Mem} (hd : Nat.blt d n = true) (ho : ops[i]? = some ⟨some d, .call { callee := .value (.func f), args := xs.toArray, argTypes := ats }, ty, pos, af, gd⟩) (hg : gd = none ∨ ∃ j b, gd = some (j, b) ∧ gyes σ ops j b) (hf : fnOk P f = true)
    (ha : evs σ xs = some vs) (hm : cget Ω j = some m) (hS : ∀ m' W, Inv w0 (cset Ω j m') W → Inv w0 ΩS W) (hc : ∀ W, Inv w0 Ω W → CallR P f vs W m Post) (h : ∀ v m', Post v m' → VE P n w0 ops ΩS t (listed.setIfInBounds i true) mm ((d, v) :: σ) (cset Ω j m') K) : VI P n w0 ops ΩS t listed mm i σ Ω K :=
  VI.s (fun v => (d, v) :: σ) ho (fun v _ he => he.put hd v) hg (Stp.call j hf ha hm hc) (fun _ _ ⟨m', _, hΩ⟩ W hW => hS m' W (by subst hΩ; exact hW)) (fun v _ ⟨m', hp, hΩ⟩ => hΩ ▸ h v m' hp)
theorem VI.bsl {i : Nat} {ty : TypeId} {pos : String} {af : Array Edge} {listed : Array Bool} {mm : Nat} {dd : Nat} {t' e : TypeId} {s b len : Nat} {l : List (Nat × Operand)} {ps : List (Nat × Value)} {z cs : List Value} (j : Nat) (hd : Nat.blt dd n = true) (ho : ops[i]? = some ⟨some dd, .buildSlice t' len l.toArray, ty, pos, af, none⟩)
    (hl : evp σ l = some ps) (ht : tsl P t' = some (e, s, b)) (hz : tz P e = some z)
    (hsmall : Nat.ble (len * s) 16777216 = true) (hb : bld (fun i => some (i * s, s)) ((List.range (len * s)).map fun j => z.toArray[j % z.toArray.size]!) ps = some cs) (hS : ∀ W, Inv w0 Ω W → Inv w0 ΩS W)
    (h : ∀ g, VE P n w0 ops ΩS t (listed.setIfInBounds i true) mm ((dd, .slice (some ⟨g, 0, none⟩) len len) :: σ) ((j, mone g (.cells cs.toArray e (0, 0))) :: Ω) K) : VI P n w0 ops ΩS t listed mm i σ Ω K :=
  VI.s (fun v => (dd, v) :: σ) ho (fun v _ he => he.put hd v) (.inl rfl) (Stp.bsl j hl ht hz hsmall hb) (fun _ _ ⟨_, _, hΩ⟩ W hW => hS W (by subst hΩ; exact hW.tl)) (fun _ _ ⟨g, hv, hΩ⟩ => hv ▸ hΩ ▸ h g)
theorem VI.gbsl {i jj : Nat} {b' : Bool} {ty : TypeId} {pos : String} {af : Array Edge} {listed : Array Bool} {mm : Nat} {dd : Nat} {t' e : TypeId} {s b len : Nat} {l : List (Nat × Operand)} {ps : List (Nat × Value)} {z cs : List Value} (j : Nat) (hd : Nat.blt dd n = true) (ho : ops[i]? = some ⟨some dd, .buildSlice t' len l.toArray, ty, pos, af, some (jj, b')⟩) (hg : gyes σ ops jj b')
    (hl : evp σ l = some ps) (ht : tsl P t' = some (e, s, b)) (hz : tz P e = some z)
    (hsmall : Nat.ble (len * s) 16777216 = true) (hb : bld (fun i => some (i * s, s)) ((List.range (len * s)).map fun j => z.toArray[j % z.toArray.size]!) ps = some cs) (hS : ∀ W, Inv w0 Ω W → Inv w0 ΩS W)
    (h : ∀ g, VE P n w0 ops ΩS t (listed.setIfInBounds i true) mm ((dd, .slice (some ⟨g, 0, none⟩) len len) :: σ) ((j, mone g (.cells cs.toArray e (0, 0))) :: Ω) K) : VI P n w0 ops ΩS t listed mm i σ Ω K :=
  VI.s (fun v => (dd, v) :: σ) ho (fun v _ he => he.put hd v) (.inr ⟨_, _, rfl, hg⟩) (Stp.bsl j hl ht hz hsmall hb) (fun _ _ ⟨_, _, hΩ⟩ W hW => hS W (by subst hΩ; exact hW.tl)) (fun _ _ ⟨g, hv, hΩ⟩ => hv ▸ hΩ ▸ h g)
theorem VI.alloc {tt i : Nat} {listed : Array Bool} {mm : Nat} {dd : Nat} {t : TypeId} {ty : TypeId} {pos : String} {af : Array Edge} {z : List Value} (j : Nat) (hd : Nat.blt dd n = true) (ho : ops[i]? = some ⟨some dd, .alloc t, ty, pos, af, none⟩) (hz : tz P t = some z) (hS : ∀ g W, Inv w0 ((j, mone g (.cells z.toArray t (0, 0))) :: Ω) W → Inv w0 ΩS W)
    (h : ∀ g, VE P n w0 ops ΩS tt (listed.setIfInBounds i true) mm ((dd, .pointer (some ⟨g, 0, none⟩)) :: σ) ((j, mone g (.cells z.toArray t (0, 0))) :: Ω) K) : VI P n w0 ops ΩS tt listed mm i σ Ω K :=
  VI.s (fun v => (dd, v) :: σ) ho (fun v _ he => he.put hd v) (.inl rfl) (Stp.alloc j hz) (fun _ _ ⟨g, _, hΩ⟩ W hW => hS g W (by subst hΩ; exact hW)) (fun _ _ ⟨g, hv, hΩ⟩ => hv ▸ hΩ ▸ h g)
theorem VI.box {tt i : Nat} {listed : Array Bool} {mm : Nat} {dd : Nat} {t : TypeId} {x : Operand} {v : Value} {ty : TypeId} {pos : String} {af : Array Edge} {cs : List Value} (j : Nat) (hd : Nat.blt dd n = true) (ho : ops[i]? = some ⟨some dd, .box t x, ty, pos, af, none⟩) (hx : ev σ x = some v) (hc : v.cells = cs.toArray) (hS : ∀ g W, Inv w0 ((j, mone g (.cells cs.toArray t (0, 0))) :: Ω) W → Inv w0 ΩS W)
    (h : ∀ g, VE P n w0 ops ΩS tt (listed.setIfInBounds i true) mm ((dd, .pointer (some ⟨g, 0, none⟩)) :: σ) ((j, mone g (.cells cs.toArray t (0, 0))) :: Ω) K) : VI P n w0 ops ΩS tt listed mm i σ Ω K :=
  VI.s (fun v => (dd, v) :: σ) ho (fun v _ he => he.put hd v) (.inl rfl) (Stp.box j hx) (fun _ _ ⟨g, _, hΩ⟩ W hW => hS g W (by subst hΩ; rw [hc] at hW; exact hW)) (fun _ _ ⟨g, hv, hΩ⟩ => by rw [hv, hΩ, hc]; exact h g)
theorem VI.app {tt q : Nat} {listed : Array Bool} {mm : Nat} {ty : TypeId} {pos : String} {af : Array Edge} {s x : Operand} {t xt e : TypeId} {sz b len k dd : Nat} {v xv : Value} {cs xs z : List Value} (i : Nat) {m m0 : Mem} (hd : Nat.blt dd n = true) (ho : ops[q]? = some ⟨some dd, .call { callee := .builtin .append, args := [s, x].toArray, argTypes := [t, xt].toArray }, ty, pos, af, none⟩) (hsv : ev σ s = some v) (hxv : ev σ x = some xv) (ht : tsl P t = some (e, sz, b)) (hz : tz P e = some z) (hzl : z.length = sz)
    (hm : cget Ω i = some m) (hm0 : mle m0 m) (hown : OwnA sz m0 v len cs) (hs : Src P Ω sz xt xv k xs) (h1 : ∀ u ∈ xs, u.oneCell' = true) (hml : len + k ≤ maxLen) (hb : (len + k) * b ≤ 140737488355328) (hb0 : b ≠ 0) (hS : ∀ m' W, Inv w0 (cset Ω i m') W → Inv w0 ΩS W)
    (h : ∀ v' m', OwnA sz m' v' (len + k) (cs ++ xs) → VE P n w0 ops ΩS tt (listed.setIfInBounds q true) mm ((dd, v') :: σ) (cset Ω i m') K) : VI P n w0 ops ΩS tt listed mm q σ Ω K :=
  VI.s (fun v => (dd, v) :: σ) ho (fun v _ he => he.put hd v) (.inl rfl) (Stp.app i hsv hxv ht hz hzl hm hm0 hown hs h1 hml hb hb0) (fun _ _ ⟨m', _, hΩ⟩ W hW => hS m' W (by subst hΩ; exact hW)) (fun v _ ⟨m', hp, hΩ⟩ => hΩ ▸ h v m' hp)
theorem VI.appO {tt q : Nat} {listed : Array Bool} {mm : Nat} {ty : TypeId} {pos : String} {af : Array Edge} {e : Ty} {s x : Operand} {t xt et xe : TypeId} {b dd g c : Nat} {v : Value} {xs : List e.Den} {y : e.Den} {yc z : List Value} (i j k : Nat) {m mj mk : Mem} (hd : Nat.blt dd n = true) (ho : ops[q]? = some ⟨some dd, .call { callee := .builtin .append, args := [s, x].toArray, argTypes := [t, xt].toArray }, ty, pos, af, none⟩) (hsv : ev σ s = some v) (hxv : ev σ x = some (.slice (some ⟨g, 0, none⟩) 1 c)) (ht : tsl P t = some (et, e.sz, b)) (hz : tz P et = some z) (hzl : z.length = e.sz)
    (hm : cget Ω i = some m) (hj : cget (cdel Ω i) j = some mj) (hk : cget Ω k = some mk) (hown : Ow (.sl e) m [v] xs) (hy : Ow e mj yc y) (hxt : P.underlying xt = some (.slice xe)) (hc : cellsAt mk g 0 e.sz yc) (hml : xs.length + 1 ≤ maxLen) (hb : (xs.length + 1) * b ≤ 140737488355328) (hb0 : b ≠ 0) (hS : ∀ m' W, Inv w0 ((i, m') :: cdel (cdel Ω i) j) W → Inv w0 ΩS W)
    (h : ∀ v' m', Ow (.sl e) m' [v'] (xs ++ [y]) → VE P n w0 ops ΩS tt (listed.setIfInBounds q true) mm ((dd, v') :: σ) ((i, m') :: cdel (cdel Ω i) j) K) : VI P n w0 ops ΩS tt listed mm q σ Ω K :=
  VI.s (fun v => (dd, v) :: σ) ho (fun v _ he => he.put hd v) (.inl rfl) (Stp.appO i j k hsv hxv ht hz hzl hm hj hk hown hy hxt hc hml hb hb0) (fun _ _ ⟨m', _, hΩ⟩ W hW => hS m' W (by subst hΩ; exact hW)) (fun v _ ⟨m', hp, hΩ⟩ => hΩ ▸ h v m' hp)
theorem VI.store {tt q : Nat} {listed : Array Bool} {mm : Nat} {ty : TypeId} {pos : String} {af : Array Edge} {t : TypeId} {x y : Operand} {g off : Nat} {v : Value} {k : Nat} (i : Nat) {c : Array Value} {E : TypeId} {c' : List Value}
    (ho : ops[q]? = some ⟨none, .store t x y, ty, pos, af, none⟩)
    (hx : ev σ x = some (.pointer (some ⟨g, off, none⟩))) (hy : ev σ y = some v) (ht : tk P t = some (some k) ∨ (tk P t = some none ∧ k = 1)) (hk : Nat.beq v.cells.size k = true) (hn : nice v = true)
    (hm : cget Ω i = some (mone g (.cells c E (0, 0)))) (hl : Nat.ble (off + k) c.size = true) (hc : splice c.toList off v.cells.toList = c')
    (hS : ∀ W, Inv w0 (cset Ω i (mone g (.cells c'.toArray E (0, 0)))) W → Inv w0 ΩS W)
    (h : VE P n w0 ops ΩS tt (listed.setIfInBounds q true) mm σ (cset Ω i (mone g (.cells c'.toArray E (0, 0)))) K) : VI P n w0 ops ΩS tt listed mm q σ Ω K :=
  VI.s (fun _ => σ) ho (fun _ _ he => he) (.inl rfl) (Stp.store i hx hy ht hk hn hm (mone_self _ _) hl) (fun _ _ ⟨_, hΩ⟩ W hW => hS W (by rw [hΩ, mset_one, hc] at hW; exact hW)) (fun _ _ ⟨_, hΩ⟩ => by rw [hΩ, mset_one, hc]; exact h)
theorem VI.storeH {tt q : Nat} {listed : Array Bool} {mm : Nat} {ty : TypeId} {pos : String} {af : Array Edge} {t : TypeId} {x y : Operand} {g off : Nat} {v : Value} {k : Nat} (i : Nat) {c : Array Value} {E : TypeId} {c' : List Value}
    (ho : ops[q]? = some ⟨none, .store t x y, ty, pos, af, none⟩)
    (hx : ev σ x = some (.pointer (some ⟨g, off, none⟩))) (hy : ev σ y = some v) (ht : tk P t = some (some k) ∨ (tk P t = some none ∧ k = 1)) (hk : Nat.beq v.cells.size k = true) (hn : nice v = true)
    (hm : cget Ω i = some (mone g (.cells c E (0, 0)))) (hl : Nat.ble (off + k) c.size = true) (hc : splice c.toList off v.cells.toList = c')
    (hS : ∀ W, Inv w0 (cset Ω i (mone g (.cells c'.toArray E (0, 0)))) W → Inv w0 (lowS ΩS) W)
    (h : VE P n w0 ops (lowS ΩS) tt (listed.setIfInBounds q true) mm σ (cset Ω i (mone g (.cells c'.toArray E (0, 0)))) K) : VI P n w0 ops ΩS tt listed mm q σ Ω K :=
  VI.sH (fun _ => σ) ho (fun _ _ he => he) rfl (by unfold isSt; rw [ho]) (Stp.store i hx hy ht hk hn hm (mone_self _ _) hl) (fun _ _ ⟨_, hΩ⟩ W hW => hS W (by rw [hΩ, mset_one, hc] at hW; exact hW)) (fun _ _ ⟨_, hΩ⟩ => by rw [hΩ, mset_one, hc]; exact h)
end
section
variable {P : Program} {n : Nat} {w0 : World} {σ : Env} {Ω ΩS : Ctx} {ops : Array Oper} {tt : Nat} {K : Env → Ctx → Prop} {listed : Array Bool} {m : Nat}
theorem VE.decB {s : Nat} {b : Bool} (ht : eget σ s = some (.bool b)) (h1 : b = true → VE P n w0 ops ΩS tt listed m ((s, .bool true) :: σ) Ω K)
    (h2 : b = false → VE P n w0 ops ΩS tt listed m ((s, .bool false) :: σ) Ω K) : VE P n w0 ops ΩS tt listed m σ Ω K := fun Q hn hQ a W he => by
  cases hb : b with
  | true => exact h1 hb Q hn hQ a W (he.dup (by rw [ht, hb]))
  | false => exact h2 hb Q hn hQ a W (he.dup (by rw [ht, hb]))
theorem VE.dec {s : Nat} {p : Prop} [Decidable p] (ht : eget σ s = some (.bool (decide p))) (h1 : p → VE P n w0 ops ΩS tt listed m ((s, .bool true) :: σ) Ω K)
    (h2 : ¬ p → VE P n w0 ops ΩS tt listed m ((s, .bool false) :: σ) Ω K) : VE P n w0 ops ΩS tt listed m σ Ω K :=
  VE.decB ht (fun h => h1 (of_decide_eq_true h)) (fun h => h2 (of_decide_eq_false h))
theorem VE.decBN {s : Nat} {b : Bool} (ht : eget σ s = some (.bool (!b))) (h1 : b = false → VE P n w0 ops ΩS tt listed m ((s, .bool true) :: σ) Ω K)
    (h2 : b = true → VE P n w0 ops ΩS tt listed m ((s, .bool false) :: σ) Ω K) : VE P n w0 ops ΩS tt listed m σ Ω K :=
  VE.decB ht (fun h => h1 (by cases b <;> simp_all)) (fun h => h2 (by cases b <;> simp_all))
theorem VE.known {t : Nat} {b : Bool} (b' : Bool) (ht : eget σ t = some (.bool b)) (hb : b = b') (h : VE P n w0 ops ΩS tt listed m ((t, .bool b') :: σ) Ω K) : VE P n w0 ops ΩS tt listed m σ Ω K :=
  fun Q hn hQ a W he => h Q hn hQ a W (he.dup (by rw [ht, hb]))
end
/-- number of what is written (0: nothing), what is looked at, what is waited for: sets as numbers -/
abbrev Trip := Nat × Nat × Nat
def tb (m j : Nat) : Bool := Nat.beq (Nat.land (Nat.shiftRight m j) 1) 1
theorem tb_is (m j : Nat) : tb m j = m.testBit j := by
  unfold tb Nat.testBit
  have h : Nat.land (Nat.shiftRight m j) 1 = (1 &&& (m >>> j)) := Nat.and_comm _ _
  rw [h]
  have h2 : (1 &&& (m >>> j)) = (m >>> j) % 2 := by rw [Nat.and_comm]; exact Nat.and_one_is_mod _
  rw [h2]
  rcases Nat.mod_two_eq_zero_or_one (m >>> j) with h3 | h3 <;> rw [h3] <;> rfl
def maskOf : List Nat → Nat
  | [] => 0
  | x :: l => Nat.lor (Nat.shiftLeft 1 x) (maskOf l)
theorem tb_zero (j : Nat) : tb 0 j = false := by rw [tb_is, Nat.zero_testBit]
theorem tb_or (a b j : Nat) : tb (Nat.lor a b) j = (tb a j || tb b j) := by
  rw [tb_is, tb_is, tb_is]; exact Nat.testBit_or _ _ _
theorem tb_one (x j : Nat) : tb (Nat.shiftLeft 1 x) j = Nat.beq x j := by
  have h : Nat.shiftLeft 1 x = 2 ^ x := Nat.one_shiftLeft x
  rw [tb_is, h, Nat.testBit_two_pow]
  by_cases e : x = j
  · subst e; simp
  · rw [decide_eq_false e]; cases hb : Nat.beq x j with
    | false => rfl
    | true => exact absurd (Nat.eq_of_beq_eq_true hb) e
theorem tb_mask : ∀ (l : List Nat) (j : Nat), tb (maskOf l) j = l.contains j
  | [], j => by rw [show maskOf [] = 0 from rfl, tb_zero]; rfl
  | x :: l, j => by
    rw [show maskOf (x :: l) = Nat.lor (Nat.shiftLeft 1 x) (maskOf l) from rfl, tb_or, tb_one, tb_mask l j, List.contains_cons]
    congr 1
    by_cases e : j = x
    · subst e; simp
    · rw [beq_false_of_ne e]; cases hb : Nat.beq x j with
      | false => rfl
      | true => exact absurd (Nat.eq_of_beq_eq_true hb).symm e
def depsOf (o : Oper) : List Nat := (o.after.toList.filter (Region.binds .any)).map (·.on)
def dstOf (o : Oper) : Nat := match o.dst with
  | some d => d + 1
  | none => 0
def tripOf (ops : Array Oper) (o : Oper) : Trip := (dstOf o, maskOf (o.looksAt ops), maskOf (depsOf o))
def rdT (L : Nat) (y : Trip) : Bool := Nat.beq (Nat.land y.2.2 L) y.2.2
theorem tb_deps (o : Oper) (j : Nat) : tb (maskOf (depsOf o)) j = true ↔ ∃ e ∈ o.after, Region.binds .any e = true ∧ e.on = j := by
  rw [tb_mask]
  simp only [List.contains_iff_mem, depsOf, List.mem_map, List.mem_filter, Array.mem_toList_iff]
  exact ⟨fun ⟨e, ⟨h1, h2⟩, h3⟩ => ⟨e, h1, h2, h3⟩, fun ⟨e, h1, h2, h3⟩ => ⟨e, ⟨h1, h2⟩, h3⟩⟩
/-- listed, as a number -/
structure Msk (ops : Array Oper) (listed : Array Bool) (L : Nat) : Prop where
  size : listed.size = ops.size
  bits : ∀ j, j < ops.size → listed.getD j false = tb L j
section
variable {ops : Array Oper} {listed : Array Bool} {L t : Nat} (hL : Msk ops listed L)
theorem Msk.start (ops : Array Oper) : Msk ops (Array.replicate ops.size false) 0 :=
  ⟨by simp, fun j _ => by rw [getD_replicate_false, tb_zero]⟩
include hL
theorem Msk.set {i : Nat} (hi : i < ops.size) : Msk ops (listed.setIfInBounds i true) (Nat.lor L (Nat.shiftLeft 1 i)) := by
  refine ⟨by simp [hL.size], fun j hj => ?_⟩
  rw [tb_or, tb_one]
  by_cases e : i = j
  · subst e
    have hl : i < listed.size := by rw [hL.size]; exact hi
    rw [Nat.beq_refl, Bool.or_true]
    simp [hl]
  · rw [getD_set_ne false e, hL.bits j hj]
    cases hb : Nat.beq i j with
    | false => rw [Bool.or_false]
    | true => exact absurd (Nat.eq_of_beq_eq_true hb) e
theorem Msk.rd {j : Nat} {o : Oper} (ho : ops[j]? = some o) (hw : ∀ e ∈ o.after, Region.binds .any e = true → e.on < ops.size) :
    rdT L (tripOf ops o) = true ↔ ∀ e ∈ o.after, Region.binds .any e = true → listed.getD e.on false = true := by
  unfold rdT tripOf
  dsimp only
  constructor
  · intro h e he hb
    rw [hL.bits _ (hw e he hb)]
    have h1 := Nat.eq_of_beq_eq_true h
    have h2 : tb (maskOf (depsOf o)) e.on = true := (tb_deps o _).2 ⟨e, he, hb, rfl⟩
    rw [tb_is] at h2 ⊢
    have h3 := congrArg (fun x => x.testBit e.on) h1
    have h4 : (Nat.land (maskOf (depsOf o)) L).testBit e.on = ((maskOf (depsOf o)).testBit e.on && L.testBit e.on) := Nat.testBit_and _ _ _
    simp only [h4, h2, Bool.true_and] at h3
    exact h3
  · intro h
    have : Nat.land (maskOf (depsOf o)) L = maskOf (depsOf o) := by
      refine Nat.eq_of_testBit_eq fun i => ?_
      have h4 : (Nat.land (maskOf (depsOf o)) L).testBit i = ((maskOf (depsOf o)).testBit i && L.testBit i) := Nat.testBit_and _ _ _
      rw [h4]
      cases hb : (maskOf (depsOf o)).testBit i with
      | false => rfl
      | true =>
        rw [Bool.true_and]
        rw [← tb_is] at hb ⊢
        obtain ⟨e, he, h1, h2⟩ := (tb_deps o i).1 hb
        have h5 := h e he h1
        subst h2
        rw [← hL.bits _ (hw e he h1)]; exact h5
    rw [this]; exact Nat.beq_refl _
end
def zC : DCommit := (0, 0, [])
def cPart (B : Bytes) : DCommit := ((sX B 1048576 : Int), (sX (B.drop (sN B 1048576)) 1048576 : Int), (bRead (B.drop (sN B 1048576 + sN (B.drop (sN B 1048576)) 1048576))).1)
def cDecode (B : Bytes) : DCommit × Int :=
  if sE B 1048576 = 0 ∧ sE (B.drop (sN B 1048576)) 1048576 = 0 ∧ (bRead (B.drop (sN B 1048576 + sN (B.drop (sN B 1048576)) 1048576))).2.2 = 0 ∧
    ((sN B 1048576 : Int) + (sN (B.drop (sN B 1048576)) 1048576 : Int) + (bRead (B.drop (sN B 1048576 + sN (B.drop (sN B 1048576)) 1048576))).2.1 = B.length) ∧ cCheck (cPart B) = 0 then (cPart B, 0) else (zC, 5)
theorem s_there {x : Nat} {m : Int} (h : (x : Int) ≤ m) (hm : m ≤ 9223372036854775807) (r : Bytes) : sX (venc x ++ r) m = x ∧ sN (venc x ++ r) m = (venc x).length ∧ sE (venc x ++ r) m = 0 := by
  have hs : vsmall (venc x ++ r) m = some (x, (venc x).length) := by unfold vsmall; rw [vread_there (by omega)]; exact if_pos h
  unfold sX sN sE; rw [hs]; exact ⟨rfl, rfl, rfl⟩
theorem s_back {B : Bytes} {m : Int} (h : sE B m = 0) : B = venc (sX B m) ++ B.drop (sN B m) := by
  unfold sE sX sN vsmall at *
  cases hv : vread B with
  | none => rw [hv] at h; cases h
  | some p =>
    obtain ⟨y, n⟩ := p
    rw [hv] at h
    dsimp only at h ⊢
    by_cases hy : (y : Int) ≤ m
    · rw [if_pos hy]; exact (vread_back hv).1
    · rw [if_neg hy] at h; cases h
def fEnc (r : Bytes) : Bytes := venc r.length ++ r
def fAppend (b r : Bytes) : Bytes × Int := if 131072 < r.length then ([], 3) else (b ++ fEnc r, 0)
def fRead (b : Bytes) : Bytes × Int × Int := if sE b 131072 = 0 ∧ (sX b 131072 : Int) ≤ (b.length : Int) - sN b 131072 then ((b.drop (sN b 131072)).take (sX b 131072), (sN b 131072 : Int) + sX b 131072, 0) else ([], 0, 5)
theorem fAppend_long {b r : Bytes} (h : (131072 : Int) < r.length) : fAppend b r = ([], 3) := if_pos (by omega)
theorem fAppend_good {b r : Bytes} (h : ¬ (131072 : Int) < r.length) : fAppend b r = (b ++ fEnc r, 0) := if_neg (by omega)
theorem fEnc_len {r : Bytes} (h : r.length ≤ 131072) : (fEnc r).length ≤ r.length + 10 := by
  have := venc_len (x := r.length) (by omega)
  simp only [fEnc, List.length_append]; omega
theorem fEnc_pos (r : Bytes) : 1 ≤ (fEnc r).length := by
  have := venc_pos r.length
  simp only [fEnc, List.length_append]; omega
theorem sN_pos {b : Bytes} {m : Int} (h : sE b m = 0) : 1 ≤ sN b m := by
  unfold sE at h; unfold sN
  cases hv : vsmall b m with
  | none => rw [hv] at h; cases h
  | some p =>
    obtain ⟨x, n⟩ := p
    unfold vsmall at hv
    cases hr : vread b with
    | none => rw [hr] at hv; cases hv
    | some q =>
      obtain ⟨y, k⟩ := q
      rw [hr] at hv
      dsimp only at hv
      split at hv
      · cases hv; exact (vread_bounds hr).2.1
      · cases hv
theorem fRead_bounds (b : Bytes) : 0 ≤ (fRead b).2.1 ∧ (fRead b).2.1 ≤ b.length ∧ (fRead b).1.length ≤ 131072 ∧ ((fRead b).2.2 = 0 ∨ (fRead b).2.2 = 5) ∧ ((fRead b).2.2 = 0 → 1 ≤ (fRead b).2.1) ∧ (fRead b).1.length ≤ b.length := by
  have hb := s_bounds b 131072 (by omega)
  have := hb.2.1 (by omega)
  unfold fRead
  split
  · rename_i h
    have := sN_pos h.1
    refine ⟨by dsimp only; omega, by dsimp only; omega, by simp only [List.length_take]; omega, .inl rfl, fun _ => by dsimp only; omega, by simp only [List.length_take, List.length_drop]; omega⟩
  · exact ⟨Int.le_refl _, by simp, by simp, .inr rfl, fun h => (by cases h), by simp⟩
theorem fRead_there {r : Bytes} (h : r.length ≤ 131072) (s : Bytes) : fRead (fEnc r ++ s) = (r, ((fEnc r).length : Int), 0) := by
  obtain ⟨a1, a2, a3⟩ := s_there (x := r.length) (m := 131072) (by omega) (by omega) (r ++ s)
  unfold fEnc
  rw [List.append_assoc]
  unfold fRead
  rw [a1, a2, a3, if_pos ⟨rfl, by simp only [List.length_append]; omega⟩, List.drop_left, List.take_left]
  simp only [List.length_append, Int.natCast_add]
theorem fRead_back {b : Bytes} (h : (fRead b).2.2 = 0) : b = fEnc (fRead b).1 ++ b.drop (fRead b).2.1.toNat ∧ (fRead b).2.1 = ((fEnc (fRead b).1).length : Int) ∧ (fRead b).1.length ≤ 131072 := by
  have hb := s_bounds b 131072 (by omega)
  have h1 := hb.2.1 (by omega)
  unfold fRead at h ⊢
  split at h
  · rename_i hh
    rw [if_pos hh]
    have e := s_back hh.1
    dsimp only
    have hl : ((b.drop (sN b 131072)).take (sX b 131072)).length = sX b 131072 := by
      simp only [List.length_take, List.length_drop]; omega
    have hv : (venc (sX b 131072)).length = sN b 131072 := by
      have := congrArg List.length e
      simp only [List.length_append, List.length_drop] at this
      omega
    refine ⟨?_, ?_, by rw [hl]; omega⟩
    · unfold fEnc
      rw [hl, List.append_assoc, show ((sN b 131072 : Int) + sX b 131072).toNat = sN b 131072 + sX b 131072 by omega, ← List.drop_drop, List.take_append_drop, ← e]
    · unfold fEnc
      rw [List.length_append, hl, hv]; omega
  · cases h
def fWhole (b : Bytes) : Int × Int × Bool := if sE b 131072 = 0 ∧ (sX b 131072 : Int) ≤ (b.length : Int) - sN b 131072 then ((sN b 131072 : Int), (sN b 131072 : Int) + sX b 131072, true) else (0, 0, false)
theorem whole_no1 {b : Bytes} (h : ¬ sE b 131072 = 0) : fWhole b = (0, 0, false) := if_neg fun q => h q.1
theorem whole_no2 {b : Bytes} (h : (b.length : Int) - sN b 131072 < sX b 131072) : fWhole b = (0, 0, false) := if_neg fun q => by have := q.2; omega
theorem whole_yes {b : Bytes} (h : ¬ ¬ sE b 131072 = 0) (h2 : ¬ (b.length : Int) - sN b 131072 < sX b 131072) : fWhole b = ((sN b 131072 : Int), (sN b 131072 : Int) + sX b 131072, true) := if_pos ⟨Decidable.not_not.1 h, by omega⟩
theorem fWhole_bounds (b : Bytes) : 0 ≤ (fWhole b).1 ∧ (fWhole b).1 ≤ (fWhole b).2.1 ∧ (fWhole b).2.1 ≤ b.length ∧ (fWhole b).2.1 - (fWhole b).1 ≤ 131072 := by
  have hb := s_bounds b 131072 (by omega)
  have := hb.2.1 (by omega)
  unfold fWhole
  split
  · rename_i h; exact ⟨by dsimp only; omega, by dsimp only; omega, by dsimp only; omega, by dsimp only; omega⟩
  · exact ⟨Int.le_refl _, Int.le_refl _, by simp, by decide⟩
theorem fRead_bad {b : Bytes} (h : (fWhole b).2.2 = false) : fRead b = ([], 0, 5) := by
  unfold fWhole at h; unfold fRead
  split at h
  · cases h
  · rename_i h0; exact if_neg h0
theorem fRead_good {b : Bytes} (h : (fWhole b).2.2 = true) : fRead b = ((b.take (fWhole b).2.1.toNat).drop (fWhole b).1.toNat, (fWhole b).2.1, 0) := by
  have hb := s_bounds b 131072 (by omega)
  unfold fWhole at h ⊢; unfold fRead
  split at h
  · rename_i h0
    rw [if_pos h0, if_pos h0]
    dsimp only
    rw [List.drop_take, Int.toNat_natCast, show ((sN b 131072 : Int) + sX b 131072).toNat - sN b 131072 = sX b 131072 by omega]
  · cases h
theorem clone_nil' {e : Ty} {m : Mem} {A : Option Addr} {c : Nat} {l : List e.Den} (h : Rd (.sl e) m [.slice A l.length c] l) (hA : A = none) : l = [] := by
  subst hA
  obtain ⟨A', c', h1, _, _, h4⟩ := h
  rcases h4 with h4 | ⟨g, off, all, k1, _⟩
  · exact List.eq_nil_of_length_eq_zero h4
  · simp only [List.cons.injEq, Value.slice.injEq, and_true] at h1
    rw [← h1.1] at k1; cases k1
theorem fAppend_len (b r : Bytes) : (fAppend b r).1.length ≤ b.length + 131082 := by
  unfold fAppend
  split
  · simp
  · have := fEnc_len (r := r) (by omega)
    simp only [List.length_append]; omega
theorem fAppend_range (b r : Bytes) : 0 ≤ (fAppend b r).2 ∧ (fAppend b r).2 ≤ 3 := by unfold fAppend; split <;> exact ⟨by dsimp only; omega, by dsimp only; omega⟩
/-- a stands ahead of b. -/
abbrev kl (a b : List UInt8) : Prop := Op.bytesLess a b = true
theorem kl_cons {a b : UInt8} {x y : List UInt8} : kl (a :: x) (b :: y) ↔ a.toNat < b.toNat ∨ (a = b ∧ kl x y) := by
  simp only [kl, Op.bytesLess, Bool.or_eq_true, Bool.and_eq_true, decide_eq_true_eq, beq_iff_eq, UInt8.lt_iff_toNat_lt]
theorem kl_nil_cons (b : UInt8) (y : List UInt8) : kl [] (b :: y) := rfl
theorem kl_nil {x : List UInt8} : ¬ kl x [] := by cases x <;> simp [kl, Op.bytesLess]
theorem kl_irrefl : ∀ x : List UInt8, ¬ kl x x
  | [] => kl_nil
  | a :: x => fun h => by
    rcases kl_cons.1 h with h | ⟨_, h⟩
    · omega
    · exact kl_irrefl x h
theorem kl_trans : ∀ {x y z : List UInt8}, kl x y → kl y z → kl x z
  | _, _, [], _, h => absurd h kl_nil
  | _, [], _ :: _, h, _ => absurd h kl_nil
  | [], _ :: _, _ :: _, _, _ => kl_nil_cons _ _
  | a :: x, b :: y, c :: z, h, k => by
    rcases kl_cons.1 h with h1 | ⟨e1, h1⟩ <;> rcases kl_cons.1 k with k1 | ⟨e2, k1⟩
    · exact kl_cons.2 (.inl (by omega))
    · exact kl_cons.2 (.inl (e2 ▸ h1))
    · exact kl_cons.2 (.inl (e1 ▸ k1))
    · exact kl_cons.2 (.inr ⟨e1.trans e2, kl_trans h1 k1⟩)
theorem kl_total : ∀ x y : List UInt8, kl x y ∨ x = y ∨ kl y x
  | [], [] => .inr (.inl rfl)
  | [], _ :: _ => .inl (kl_nil_cons _ _)
  | _ :: _, [] => .inr (.inr (kl_nil_cons _ _))
  | a :: x, b :: y => by
    rcases Nat.lt_trichotomy a.toNat b.toNat with h | h | h
    · exact .inl (kl_cons.2 (.inl h))
    · have e : a = b := UInt8.toNat_inj.1 h
      subst e
      rcases kl_total x y with h | h | h
      · exact .inl (kl_cons.2 (.inr ⟨rfl, h⟩))
      · exact .inr (.inl (by rw [h]))
      · exact .inr (.inr (kl_cons.2 (.inr ⟨rfl, h⟩)))
    · exact .inr (.inr (kl_cons.2 (.inl h)))
theorem kl_ne {x y : List UInt8} (h : kl x y) : ¬ x = y := fun e => by subst e; exact kl_irrefl _ h
theorem kl_asymm {x y : List UInt8} (h : kl x y) : ¬ kl y x := fun k => kl_irrefl _ (kl_trans h k)
theorem kl_of {x y : List UInt8} (h : ¬ kl y x) (hn : ¬ x = y) : kl x y := by
  rcases kl_total x y with k | k | k
  · exact k
  · exact absurd k hn
  · exact absurd k h
theorem kl_le_lt {x y z : List UInt8} (h : ¬ kl y x) (k : kl y z) : kl x z := by
  by_cases e : x = y
  · subst e; exact k
  · exact kl_trans (kl_of h e) k
section
variable {P : Program} {n : Nat} {w0 : World} {σ : Env} {Ω : Ctx}
variable {ty : TypeId} {pos : String} {af : Array Edge} {d : Option Tmp} {gd : Option (Nat × Bool)}
variable {x y : Operand} {t u : TypeId} {a b : List UInt8}
theorem shr1 (a : Nat) {k : IntKind} : ∀ W, (Op.shift .shr .u64 (a : Int) k 1).run P W = .ok (.int .u64 ((a / 2 : Nat) : Int)) W := fun W => by
  show Result.ok (Value.int .u64 ((a : Int).fdiv (2 ^ (min 1 64)))) W = _
  have e : ((a : Int).fdiv (2 ^ (min 1 64))) = ((a / 2 : Nat) : Int) := by
    rw [Int.fdiv_eq_ediv_of_nonneg _ (by decide)]
    rfl
  rw [e]
theorem less_dec (a b : List UInt8) : Op.bytesLess a b = decide (kl a b) := Bool.decide_eq_true.symm
theorem leq_dec (a b : List UInt8) : (Op.bytesLess a b || a == b) = decide (¬ kl b a) := by
  rcases kl_total a b with h | h | h
  · rw [decide_eq_true (kl_asymm h), show Op.bytesLess a b = true from h]; rfl
  · subst h; rw [decide_eq_true (kl_irrefl a)]; simp
  · rw [decide_eq_false (by simpa using h), show Op.bytesLess a b = false from by simpa using kl_asymm h]; simpa using fun e : a = b => kl_ne h e.symm
theorem Yld.slss (hx : ev σ x = some (str a)) (hy : ev σ y = some (str b)) : Yld P n w0 σ Ω ⟨d, .binOp .lss t x y u, ty, pos, af, gd⟩ (.bool (decide (kl a b))) := fun A W he _ => by
  rw [← less_dec]; simp [execOp, he.eval hx, he.eval hy, eqGuard_str, binOp, Op.stringOp]
theorem Yld.sgeq (hx : ev σ x = some (str a)) (hy : ev σ y = some (str b)) : Yld P n w0 σ Ω ⟨d, .binOp .geq t x y u, ty, pos, af, gd⟩ (.bool (decide (¬ kl a b))) := fun A W he _ => by
  rw [show decide (¬ kl a b) = !Op.bytesLess a b from by rw [decide_not, ← less_dec]]; simp [execOp, he.eval hx, he.eval hy, eqGuard_str, binOp, Op.stringOp]
theorem Yld.sleq (hx : ev σ x = some (str a)) (hy : ev σ y = some (str b)) : Yld P n w0 σ Ω ⟨d, .binOp .leq t x y u, ty, pos, af, gd⟩ (.bool (decide (¬ kl b a))) := fun A W he _ => by
  rw [← leq_dec]; simp [execOp, he.eval hx, he.eval hy, eqGuard_str, binOp, Op.stringOp]
end
abbrev TRun : Ty := .pair (.int .i64) (.pair (.int .i64) (.sl TOp))
abbrev DRun := Int × Int × (List DOp)
instance decRun : DecidableEq DRun := (@instDecidableEqProd _ _ inferInstance (@instDecidableEqProd _ _ inferInstance inferInstance))
theorem open_Run {m : Mem} {cs : List Value} {x0 : Int} {x1 : Int} {x2 : List DOp} (h : Rd TRun m cs (x0, x1, x2)) : ∃ (A2 : Option Addr), ∃ (c2 : Nat), cs = [(.int .i64 x0 : Value), .int .i64 x1, .slice A2 x2.length c2] ∧ inK .i64 x0 ∧ inK .i64 x1 ∧ Rd (.sl TOp) m [.slice A2 x2.length c2] x2 := by
  obtain ⟨p1, q1, rfl, u1, w1⟩ := Rd.pair h
  obtain ⟨rfl, z2⟩ := (show _ = _ ∧ _ from u1)
  obtain ⟨p3, q3, rfl, u3, w3⟩ := Rd.pair w1
  obtain ⟨rfl, z4⟩ := (show _ = _ ∧ _ from u3)
  have z5 := w3
  obtain ⟨A5, c5, rfl, _⟩ := Rd.slice1 w3
  exact ⟨A5, c5, rfl, z2, z4, z5⟩
theorem mk_Run {m : Mem} (x0 : Int) (x1 : Int) (x2 : List DOp) (h0 : inK .i64 x0) (h1 : inK .i64 x1) {v2 : Value} (h2 : Rd (.sl TOp) m [v2] x2) : Rd TRun m [.int .i64 x0, .int .i64 x1, v2] (x0, x1, x2) := (Rd.mkPair (c1 := [_]) (show Rd (.int .i64) m [_] _ from ⟨rfl, h0⟩) (Rd.mkPair (c1 := [_]) (show Rd (.int .i64) m [_] _ from ⟨rfl, h1⟩) h2))
theorem openO_Run {m : Mem} {cs : List Value} {x0 : Int} {x1 : Int} {x2 : List DOp} (h : Ow TRun m cs (x0, x1, x2)) : ∃ (A2 : Option Addr), ∃ (c2 : Nat), ∃ (n2 : Mem), cs = [(.int .i64 x0 : Value), .int .i64 x1, .slice A2 x2.length c2] ∧ Seps m [n2] ∧ inK .i64 x0 ∧ inK .i64 x1 ∧ Ow (.sl TOp) n2 [.slice A2 x2.length c2] x2 := by
  obtain ⟨p1, q1, ma1, mb1, rfl, dj1, la1, lb1, u1, w1⟩ := Ow.pair h
  obtain ⟨rfl, z2⟩ := (show _ = _ ∧ _ from u1)
  obtain ⟨p3, q3, ma3, mb3, rfl, dj3, la3, lb3, u3, w3⟩ := Ow.pair w1
  obtain ⟨rfl, z4⟩ := (show _ = _ ∧ _ from u3)
  have z5 := w3
  obtain ⟨A5, c5, rfl, _⟩ := Ow.slice1 w3
  exact ⟨A5, c5, _, rfl, (Seps.app dj1 la1 lb1 (Seps.nil _) (Seps.app dj3 la3 lb3 (Seps.nil _) (Seps.one (mle_refl _)))), z2, z4, z5⟩
theorem mkO_Run {m : Mem} {n2 : Mem} (x0 : Int) (x1 : Int) (x2 : List DOp) (hS : Seps m [n2]) (h0 : inK .i64 x0) (h1 : inK .i64 x1) {v2 : Value} (h2 : Ow (.sl TOp) n2 [v2] x2) : Ow TRun m [.int .i64 x0, .int .i64 x1, v2] (x0, x1, x2) := by
  obtain ⟨e1, la1, lb1, Sa1, Sb1⟩ := Seps.cut (l := []) (r := [n2]) hS
  obtain ⟨e2, la2, lb2, Sa2, Sb2⟩ := Seps.cut (l := []) (r := [n2]) Sb1
  exact (Ow.mkPair (c1 := [_]) e1 la1 lb1 (show Ow (.int .i64) _ [_] _ from ⟨rfl, h0⟩) (Ow.mkPair (c1 := [_]) e2 la2 lb2 (show Ow (.int .i64) _ [_] _ from ⟨rfl, h1⟩) (h2.up (Sb2.1 _ (.head _)))))
end Go.Proofs.YtonbpfncmlijnaaGreat
