/- Part 4 of the proof of LRunNil: what it needs of the library, the walks and the plain laws. Conditions: those named in each theorem. -/
import Derived.Test.YtgmdjhdgaddigaaLRunNilM3
set_option linter.unusedVariables false
set_option linter.unusedSimpArgs false
set_option maxRecDepth 4000
namespace Go.Proofs.Ytgmdjhdgaddigaa
theorem fnOk46 : fnOk Try.prog 46 = true := by kernel_rfl
theorem fnOk47 : fnOk Try.prog 47 = true := by kernel_rfl
theorem fnOk48 : fnOk Try.prog 48 = true := by kernel_rfl
theorem tz4 : tz Try.prog 4 = some [.bool false] := by kernel_rfl
theorem tz9 : tz Try.prog 9 = some [.string ⟨#[]⟩] := by kernel_rfl
theorem search_ok (W : World) (d0 : Nat) (h0 : d0 < 9223372036854775808) {gf1 : FuncId} {caps1 : List Value} {p1 : Nat → Bool} (hf1 : fnOk Try.prog gf1 = true) (h1 : ∀ W', mle (wm W) (wm W') → ∀ i : Nat, i < d0 → CallR Try.prog gf1 (.int .i64 ((i : Nat) : Int) :: caps1) W' mnil (fun v _ => v = .bool (p1 i))) (e0 : d0 ≤ 4611686018427387903) : CallR Try.prog 47 [.int .i64 (d0 : Int), .func (.func gf1) #[] caps1.toArray] W (mnil) (fun v m' => ∃ (kq : Nat), v = .int .i64 ((kq : Nat) : Int) ∧ kq ≤ d0 ∧ (kq < d0 → p1 kq = true) ∧ (0 < kq → p1 (kq - 1) = false)) := by
  refine CallR.ofA (n := 26) Try.func47 rfl rfl rfl ?_
  refine VC.rs ?_
  refine VO.as ?_
  refine VO.k3 0 1 4 ?_
  refine VC.rs ?_
  refine VO.mv ?_
  refine VO.as ?_
  refine VO.as ?_
  refine VO.k5 0 1 4 5 6 ?_
  refine VC.seq ?_
  refine VC.block ?_
  refine VC.loop (G := Nat × Nat) (fun g => [(5, Value.int .i64 ((((g.1) : Nat) : Int))), (6, Value.int .i64 ((((g.2) : Nat) : Int))), (0, Value.int .i64 (((d0 : Nat) : Int))), (1, Value.func (.func gf1) #[] caps1.toArray), (4, Value.int .i64 (0))]) (fun g => [(0, wm W)]) (fun g => ((g.1) ≤ (g.2)) ∧ ((g.2) ≤ d0) ∧ (0 < (g.1) → p1 ((g.1) - 1) = false) ∧ ((g.2) < d0 → p1 (g.2) = true)) (fun g => (g.2) - (g.1)) (0, d0) (⟨by omega, by omega, by (intro h_; exact absurd h_ (by omega)), by (intro h_; exact absurd h_ (by omega))⟩) ⟨⟨rfl, rfl, rfl, rfl, rfl, trivial⟩, fun _ h => h.sub [0]⟩ ?_
  rintro ⟨i, j⟩ ⟨hij, hj, hp1, hp2⟩
  replace hij : i ≤ j := hij
  replace hj : j ≤ d0 := hj
  replace hp1 : 0 < i → p1 (i - 1) = false := hp1
  replace hp2 : j < d0 → p1 j = true := hp2
  show VC _ _ _ _ _ [(5, Value.int .i64 (((i : Nat) : Int))), (6, Value.int .i64 (((j : Nat) : Int))), (0, Value.int .i64 (((d0 : Nat) : Int))), (1, Value.func (.func gf1) #[] caps1.toArray), (4, Value.int .i64 (0))] [(0, wm W)]
  refine VC.seq ?_
  refine VC.rs ?_
  refine VO.mv ?_
  refine VO.mv ?_
  refine VO.y rfl (.lss rfl rfl) ?_
  refine VO.kp [0] [(0, wm W)] ?_
  refine VO.k6 0 1 4 5 6 11 ?_
  refine VC.cond rfl (fun hc1 => ?_) (fun hc1 => ?_)
  · -- T
    refine VC.skip ?_
    refine outN ?_
    refine VC.block ?_
    refine VC.rs ?_
    refine VO.mv ?_
    refine VO.mv ?_
    refine VO.y rfl (.add (c := ((i + j : Nat) : Int)) rfl rfl (by omega) ⟨bd, bd⟩) ?_
    refine VO.y rfl (.cvI rfl ⟨_, Try.underlying3⟩ Try.underlying119 (IntWalk.u64_in _ bd)) ?_
    refine VO.y rfl (.shf (.inr rfl) rfl rfl (shr1 _)) ?_
    refine VO.y rfl (.cvI rfl ⟨_, Try.underlying119⟩ Try.underlying3 (IntWalk.i64_in _ bd)) ?_
    refine VO.as ?_
    refine VO.k7 0 1 4 5 6 7 11 ?_
    refine VC.rs ?_
    refine VO.mv ?_
    refine VO.mv ?_
    refine VO.callVN 102 rfl rfl hf1 rfl (fun W_ hW_ => h1 W_ (hW_.at (i := 0) rfl) ((i + j) / 2) bd) (fun v2 m2 hv2 => ?_)
    subst hv2
    refine VO.y rfl (.not rfl) ?_
    refine VO.k8 0 1 4 5 6 7 11 21 ?_
    refine VC.condBN rfl (fun hc3 => ?_) (fun hc3 => ?_)
    · -- TT
      refine VC.reg ?_
      refine VO.mv ?_
      refine VO.y rfl (.add (c := ((((i + j) / 2) + 1 : Nat) : Int)) rfl rfl (by omega) ⟨bd, bd⟩) ?_
      refine VO.as ?_
      refine VO.kp [0] [(0, wm W)] ?_
      refine VO.k8 0 1 4 5 6 7 11 21 ?_
      refine outBN ?_
      exact outN ⟨⟨((i + j) / 2) + 1, j⟩, ⟨by omega, by omega, by first | exact hp1 | (intro _; rw [show (i + j) / 2 + 1 - 1 = (i + j) / 2 by omega]; assumption), by first | exact hp2 | (intro _; assumption)⟩, bd, ⟨⟨rfl, rfl, rfl, rfl, rfl, trivial⟩, fun _ h => Inv.sub h [0]⟩⟩
    · -- TF
      refine VC.reg ?_
      refine VO.mv ?_
      refine VO.as ?_
      refine VO.kp [0] [(0, wm W)] ?_
      refine VO.k8 0 1 4 5 6 7 11 21 ?_
      refine outBN ?_
      exact outN ⟨⟨i, (i + j) / 2⟩, ⟨by omega, by omega, by first | exact hp1 | (intro _; rw [show (i + j) / 2 + 1 - 1 = (i + j) / 2 by omega]; assumption), by first | exact hp2 | (intro _; assumption)⟩, bd, ⟨⟨rfl, rfl, rfl, rfl, rfl, trivial⟩, fun _ h => Inv.sub h [0]⟩⟩
  · -- F
    refine VC.exit ?_
    refine outE ?_
    refine outE ?_
    refine outBB ?_
    refine outN ?_
    refine VC.rs ?_
    refine VO.mv ?_
    refine VO.as ?_
    refine VO.k6 0 1 4 5 6 11 ?_
    refine VC.ret ?_
    refine ⟨_, _, res_run (rs := [.tmp 4]) rfl (.tmp rfl .nil), fun W_ hI => out_of (l := []) hI [] rfl rfl (mle_refl _) (fun hS_ => ?_)⟩
    dsimp only [packV]
    refine ⟨i, ?_, ?_, ?_, ?_⟩
    rotate_left
    · (omega)
    · ((intro h_; have e_ : i = j := (by omega); subst e_; exact hp2 h_))
    · (exact hp1)
    all_goals (first | rfl | (simp [*]; done))
theorem get1_ok (W : World) (d0 : Nat) (h0 : d0 < 9223372036854775808) {g1 : Nat} {E1 : TypeId} {v1 : List Value} {d1 : DRun} (h1 : Rd TRun (wm W) v1 d1) (b1 : mle (mone g1 (.cells v1.toArray E1 (0, 0))) (wm W)) {g2 : Nat} {E2 : TypeId} {v2 : List Value} {d2 : List UInt8} (h2 : Rd .str (wm W) v2 d2) (b2 : mle (mone g2 (.cells v2.toArray E2 (0, 0))) (wm W)) (e0 : d0 < d1.2.2.length) : CallR Try.prog 48 [.int .i64 (d0 : Int), .pointer (some ⟨g1, 0, none⟩), .pointer (some ⟨g2, 0, none⟩)] W (mnil) (fun v m' => v = .bool (geK d1.2.2 d2 d0)) := by
  obtain ⟨p1_A2, p1_c2, rfl, p1_0, p1_1, p1_2⟩ := open_Run (x0 := d1.1) (x1 := d1.2.1) (x2 := d1.2.2) h1
  simp only [inK] at p1_0
  simp only [inK] at p1_1
  have p1_r2 := Rd.room p1_2
  have hceb1 : cellsAt (wm W) g1 0 3 [Value.int .i64 (d1.1), Value.int .i64 (d1.2.1), Value.slice p1_A2 (d1.2.2.length) (p1_c2)] := (cellsAt_one rfl rfl).mono b1
  obtain ⟨rfl, _⟩ := h2
  have hceb2 : cellsAt (wm W) g2 0 1 [str (d2)] := (cellsAt_one rfl rfl).mono b2
  refine CallR.ofA (n := 13) Try.func48 rfl rfl rfl ?_
  refine VC.rs ?_
  refine VO.as ?_
  refine VO.k4 0 1 2 4 ?_
  refine VC.seq ?_
  refine VC.regD _ 7 [(0, true), (1, true), (2, true), (3, true), (4, true), (5, true), (6, true)] follows (by kernel_rfl) (fun _ h => h.sub [0]) ?_
  refine VD.y rfl rfl (.inl rfl) (.fa rfl tst32 rfl) ?_
  refine VD.y rfl rfl (.inl rfl) (.ld1 0 rfl tk30 rfl (hceb1.at1 (j := 2) rfl)) ?_
  refine VD.y rfl rfl (.inl rfl) (.mv rfl) ?_
  obtain ⟨x1, hx1⟩ : ∃ z_, (d1.2.2)[d0]? = some z_ := ⟨_, List.getElem?_eq_getElem bd⟩
  obtain ⟨gg1, oo1, ec1, ea1, hce1, hre1⟩ := p1_2.elem hx1
  cases ea1
  obtain ⟨rfl, q1_1, q1_2⟩ := open_Op (x0 := x1.1) (x1 := x1.2.1) (x2 := x1.2.2) hre1
  simp only [maxLen] at q1_1
  simp only [maxLen] at q1_2
  refine VD.y rfl rfl (.inl rfl) (.ixI d0 rfl rfl tsl30 rfl bd) ?_
  refine VD.y rfl rfl (.inl rfl) (.fa rfl tst35 rfl) ?_
  refine VD.y rfl rfl (.inl rfl) (.ld1 0 rfl tk9 rfl (hce1.at1 (j := 1) rfl)) ?_
  refine VD.y rfl rfl (.inl rfl) (.ld1 0 rfl tk9 rfl hceb2) ?_
  refine VD.nil rfl ?_ rfl
  refine VO.y rfl (.sgeq rfl rfl) ?_
  refine VO.as ?_
  refine VO.k4 0 1 2 4 ?_
  refine outN ?_
  refine VC.ret ?_
  refine ⟨_, _, res_run (rs := [.tmp 4]) rfl (.tmp rfl .nil), fun W_ hI => out_of (l := []) hI [] rfl rfl (mle_refl _) (fun hS_ => ?_)⟩
  dsimp only [packV]
  all_goals (first | rfl | (exact congrArg Value.bool (by unfold geK; rw [kAt_of ‹d1.2.2[d0]? = some _›])))
theorem uNoneB_ok (W : World) {g0 : Nat} {E0 : TypeId} {d0 : DrunRuns0} {b0_2 : Value} (hm : mle (mone g0 (.cells [(.pointer (d0.1.map fun g => ⟨g, 0, none⟩) : Value), .bool d0.2.1, b0_2].toArray E0 (0, 0))) (wm W)) (h0_2 : Rd (.sl TRun) (mout (wm W) (mone g0 (.cells [(.pointer (d0.1.map fun g => ⟨g, 0, none⟩) : Value), .bool d0.2.1, b0_2].toArray E0 (0, 0)))) [b0_2] d0.2.2) : CallR Try.prog 42 [.pointer (some ⟨g0, 0, none⟩)] W (mone g0 (.cells [(.pointer (d0.1.map fun g => ⟨g, 0, none⟩) : Value), .bool d0.2.1, b0_2].toArray E0 (0, 0))) (fun v m' => v = .bool (decide (d0.1 = none)) ∧ m' = mone g0 (.cells [(.pointer (d0.1.map fun g => ⟨g, 0, none⟩) : Value), .bool d0.2.1, b0_2].toArray E0 (0, 0))) := by
  obtain ⟨A0_2, c0_2, rfl, l0_2, k0_2⟩ := h0_2.slice
  simp only [maxLen] at k0_2
  refine CallR.ofB (n := 12) hm Try.func42 rfl rfl rfl ?_
  refine VC.rs ?_
  refine VO.as ?_
  refine VO.k2 0 2 ?_
  refine VC.rs ?_
  refine VO.mv ?_
  refine VO.y rfl (.pnil rfl rfl Try.underlying23 rfl) ?_
  refine VO.mv ?_
  refine VO.gy rfl ⟨_, rfl, rfl⟩ (.mv rfl) ?_
  refine VO.gy rfl ⟨_, rfl, rfl⟩ (.nilp rfl) ?_
  refine VO.gy rfl ⟨_, rfl, rfl⟩ (.fa rfl tst55 rfl) ?_
  refine VO.gy rfl ⟨_, rfl, rfl⟩ (.ld1 1 rfl tk27 rfl (cellsAt_one rfl rfl)) ?_
  refine VO.gy rfl ⟨_, rfl, rfl⟩ (.pnilO rfl rfl Try.underlying27) ?_
  refine VO.y rfl (.pF rfl rfl) ?_
  refine VO.as ?_
  refine VO.k2 0 2 ?_
  refine VC.ret ?_
  refine ⟨_, _, res_run (rs := [.tmp 2]) rfl (.tmp rfl .nil), fun W_ hI => out_of (l := [mone g0 (.cells [Value.pointer ((d0.1).map fun g => ⟨g, 0, none⟩), Value.bool d0.2.1, Value.slice A0_2 (d0.2.2.length) (c0_2)].toArray E0 (0, 0))]) hI [1] rfl rfl (mle_refl _) (fun hS_ => ?_)⟩
  dsimp only [packV]
  refine ⟨?_, ?_⟩
  rotate_left
  · rw [muns_one]
  all_goals (first | rfl | (simp [*]; done))
set_option maxHeartbeats 4000000 in
theorem uGet_ok (W : World) {g0 : Nat} {E0 : TypeId} {d0 : DrunRuns0} {b0_2 : Value} (hm : mle (mone g0 (.cells [(.pointer (d0.1.map fun g => ⟨g, 0, none⟩) : Value), .bool d0.2.1, b0_2].toArray E0 (0, 0))) (wm W)) (h0_2 : Rd (.sl TRun) (mout (wm W) (mone g0 (.cells [(.pointer (d0.1.map fun g => ⟨g, 0, none⟩) : Value), .bool d0.2.1, b0_2].toArray E0 (0, 0)))) [b0_2] d0.2.2) (d1 : List UInt8) (h1 : d1.length ≤ maxLen) (e0 : okU d0.2.2) (e1 : ¬ d0.1 = none) : CallR Try.prog 13 [.pointer (some ⟨g0, 0, none⟩), str d1] W (mone g0 (.cells [(.pointer (d0.1.map fun g => ⟨g, 0, none⟩) : Value), .bool d0.2.1, b0_2].toArray E0 (0, 0))) (fun v m' => v = .tuple #[str ((getR d0.2.2 d1).1), .bool ((getR d0.2.2 d1).2.1), .bool ((getR d0.2.2 d1).2.2)] ∧ m' = mone g0 (.cells [(.pointer (d0.1.map fun g => ⟨g, 0, none⟩) : Value), .bool d0.2.1, b0_2].toArray E0 (0, 0))) := by
  have hll := okU_len e0
  obtain ⟨A0_2, c0_2, rfl, l0_2, k0_2⟩ := h0_2.slice
  simp only [maxLen] at k0_2
  have h1' := h1; simp only [maxLen] at h1'
  refine CallR.ofX (n := 51) Try.func13 rfl rfl rfl hm ?_
  refine VX.rs ?_
  refine VO.box (cs := [str (d1)]) 102 rfl rfl rfl (fun g1 => ?_)
  refine VO.alloc 104 rfl tz9 (fun g3 => ?_)
  refine VO.alloc 106 rfl tz4 (fun g5 => ?_)
  refine VO.alloc 108 rfl tz4 (fun g7 => ?_)
  refine VO.k6 0 1 3 4 5 6 ?_
  refine VX.seq ?_
  refine VX.rs ?_
  refine VO.mv ?_
  refine VO.call 1 rfl fnOk42 rfl rfl (fun W hW => uNoneB_ok W (d0 := d0) (hW.at (i := 1) rfl) (Rd.mono h0_2 (hW.out (i := 1) (j := 0) rfl rfl))) (fun v9 m9 hv9 => ?_)
  obtain ⟨rfl, rfl⟩ := hv9
  refine VO.k7 0 1 3 4 5 6 11 ?_
  refine VX.cond rfl (fun hc10 => ?_) (fun hc10 => ?_)
  · -- T
    exact (e1 hc10).elim
  · -- F
    refine VX.skip ?_
    refine outN ?_
    refine VX.seq ?_
    refine VX.rs ?_
    refine VO.mv ?_
    refine VO.y rfl (.nilp rfl) ?_
    refine VO.y rfl (.fa rfl tst55 rfl) ?_
    refine VO.y rfl (.ld1 1 rfl tk47 rfl (cellsAt_one rfl rfl)) ?_
    refine VO.callN 111 rfl fnOk46 rfl (fun W_ hW_ => bw_ok W_ (mf := mout (wm W) (mone g0 (.cells [Value.pointer ((d0.1).map fun g => ⟨g, 0, none⟩), Value.bool d0.2.1, Value.slice A0_2 (d0.2.2.length) (c0_2)].toArray E0 (0, 0)))) (hW_.at (i := 0) rfl) h0_2) (fun v11 m11 hv11 => ?_)
    obtain ⟨ca11, rfl, hit11⟩ := hv11
    refine VO.kp [111, 1, 108, 106, 104, 102, 0] [(111, m11), (1, mone g0 (.cells [Value.pointer ((d0.1).map fun g => ⟨g, 0, none⟩), Value.bool d0.2.1, Value.slice A0_2 (d0.2.2.length) (c0_2)].toArray E0 (0, 0))), (108, mone g7 (.cells [Value.bool false].toArray 4 (0, 0))), (106, mone g5 (.cells [Value.bool false].toArray 4 (0, 0))), (104, mone g3 (.cells [str ([])].toArray 9 (0, 0))), (102, mone g1 (.cells [str (d1)].toArray 9 (0, 0))), (0, mout (wm W) (mone g0 (.cells [Value.pointer ((d0.1).map fun g => ⟨g, 0, none⟩), Value.bool d0.2.1, Value.slice A0_2 (d0.2.2.length) (c0_2)].toArray E0 (0, 0))))] ?_
    refine VO.k8 0 1 3 4 5 6 11 16 ?_
    refine VX.block ?_
    refine VX.gather (l := [mone g7 (.cells [Value.bool false].toArray 4 (0, 0)), mone g5 (.cells [Value.bool false].toArray 4 (0, 0)), mone g3 (.cells [str ([])].toArray 9 (0, 0))]) 113 [108, 106, 104] rfl (fun hg12 => ?_)
    refine VX.inv [(111, m11), (113, muns [mone g7 (.cells [Value.bool false].toArray 4 (0, 0)), mone g5 (.cells [Value.bool false].toArray 4 (0, 0)), mone g3 (.cells [str ([])].toArray 9 (0, 0))]), (1, mone g0 (.cells [Value.pointer ((d0.1).map fun g => ⟨g, 0, none⟩), Value.bool d0.2.1, Value.slice A0_2 (d0.2.2.length) (c0_2)].toArray E0 (0, 0))), (102, mone g1 (.cells [str (d1)].toArray 9 (0, 0))), (0, mout (wm W) (mone g0 (.cells [Value.pointer ((d0.1).map fun g => ⟨g, 0, none⟩), Value.bool d0.2.1, Value.slice A0_2 (d0.2.2.length) (c0_2)].toArray E0 (0, 0))))] (fun _ h => h.sub [111, 113, 1, 102, 0]) ?_
    refine VX.rangeR (A := Int) (G := (List UInt8) × Bool × Bool) (rest := [(1, mone g0 (.cells [Value.pointer ((d0.1).map fun g => ⟨g, 0, none⟩), Value.bool d0.2.1, Value.slice A0_2 (d0.2.2.length) (c0_2)].toArray E0 (0, 0))), (102, mone g1 (.cells [str (d1)].toArray 9 (0, 0))), (0, mout (wm W) (mone g0 (.cells [Value.pointer ((d0.1).map fun g => ⟨g, 0, none⟩), Value.bool d0.2.1, Value.slice A0_2 (d0.2.2.length) (c0_2)].toArray E0 (0, 0))))]) 113 111 114 115 116 117 (fun g => muns [mone g7 (.cells [Value.bool (g.2.2)].toArray 4 (0, 0)), mone g5 (.cells [Value.bool (g.2.1)].toArray 4 (0, 0)), mone g3 (.cells [str ((g.1))].toArray 9 (0, 0))]) (fun at_ g => (getAt d0.2.2 d1 at_) ∧ (Seps (muns [mone g7 (.cells [Value.bool (g.2.2)].toArray 4 (0, 0)), mone g5 (.cells [Value.bool (g.2.1)].toArray 4 (0, 0)), mone g3 (.cells [str ((g.1))].toArray 9 (0, 0))]) [mone g7 (.cells [Value.bool (g.2.2)].toArray 4 (0, 0)), mone g5 (.cells [Value.bool (g.2.1)].toArray 4 (0, 0)), mone g3 (.cells [str ((g.1))].toArray 9 (0, 0))])) (fun e g => e = .ret ∧ (getR d0.2.2 d1 = ((g.1), (g.2.1), (g.2.2))) ∧ (Seps (muns [mone g7 (.cells [Value.bool (g.2.2)].toArray 4 (0, 0)), mone g5 (.cells [Value.bool (g.2.1)].toArray 4 (0, 0)), mone g3 (.cells [str ((g.1))].toArray 9 (0, 0))]) [mone g7 (.cells [Value.bool (g.2.2)].toArray 4 (0, 0)), mone g5 (.cells [Value.bool (g.2.1)].toArray 4 (0, 0)), mone g3 (.cells [str ((g.1))].toArray 9 (0, 0))])) ([], false, false) ⟨by exact getAt_0 _ _, hg12⟩ (fun _ _ => hit11) (.inr ⟨0, (.tail _ (.tail _ (.head _)))⟩) rfl rfl rfl (fun _ _ _ h => by obtain ⟨_, _, _, _, _, _, rfl, _⟩ := h; rfl) (Bx := Nat) (fun args B => [(8, Value.pointer (some ⟨B, 0, none⟩)), (0, Value.pointer (some ⟨g0, 0, none⟩)), (1, str (d1)), (3, Value.pointer (some ⟨g1, 0, none⟩)), (4, Value.pointer (some ⟨g3, 0, none⟩)), (5, Value.pointer (some ⟨g5, 0, none⟩)), (6, Value.pointer (some ⟨g7, 0, none⟩)), (11, Value.bool (decide (d0.1 = none)))]) (fun args B => [(118, mone B (.cells (aggC (args.getD 1 undef)) 32 (0, 0)))]) ?_ ?_ ?_ ?_
    · intro w1_ l_ at_ args_ mr_ Ω_ hE_
      obtain ⟨hE0_, hE1_, rfl, x_, cs_, hxa_, rfl, hrx_⟩ := hE_
      have hrx0_ := hrx_
      obtain ⟨xA_, xc_, rfl, hxf_, hxu_, hro_⟩ := open_Run (x0 := x_.1) (x1 := x_.2.1) (x2 := x_.2.2) hrx_
      simp only [inK] at hxf_ hxu_
      have hxr_ := Rd.room hro_
      have hxc_ := runCheck_ok (okU_all e0 x_ (List.mem_of_getElem? hxa_))
      have hup_ := hxc_.2.2.2.2
      refine VX.reg ?_
      refine VO.alloc 118 rfl tz32 (fun gB_ => ?_)
      refine VO.store (k := 3) (c' := [Value.int .i64 (x_.1), Value.int .i64 (x_.2.1), Value.slice xA_ (x_.2.2.length) (xc_)]) 118 rfl rfl (.inl tk32) rfl rfl rfl rfl rfl ?_
      refine VO.nil ?_
      exact ⟨rfl, rfl, gB_, ⟨rfl, rfl, rfl, rfl, rfl, rfl, rfl, rfl, trivial⟩, fun W_ hW_ => Inv.rot hW_⟩
    · -- FB
      rintro w1_ l_ D_ at_ ⟨val, met, th⟩ args_ mr_ ml_ mo_ gB_ ⟨hg, hSep_⟩ hE_
      replace hg : getAt d0.2.2 d1 at_ := hg
      replace hSep_ : Seps (muns [mone g7 (.cells [Value.bool th].toArray 4 (0, 0)), mone g5 (.cells [Value.bool met].toArray 4 (0, 0)), mone g3 (.cells [str (val)].toArray 9 (0, 0))]) [mone g7 (.cells [Value.bool th].toArray 4 (0, 0)), mone g5 (.cells [Value.bool met].toArray 4 (0, 0)), mone g3 (.cells [str (val)].toArray 9 (0, 0))] := hSep_
      obtain ⟨hE0_, hE1_, rfl, x_, cs_, hxa_, rfl, hrx_⟩ := hE_
      have hrx0_ := hrx_
      obtain ⟨xA_, xc_, rfl, hxf_, hxu_, hro_⟩ := open_Run (x0 := x_.1) (x1 := x_.2.1) (x2 := x_.2.2) hrx_
      simp only [inK] at hxf_ hxu_
      have hxr_ := Rd.room hro_
      have hxc_ := runCheck_ok (okU_all e0 x_ (List.mem_of_getElem? hxa_))
      have hup_ := hxc_.2.2.2.2
      refine VX.parts 113 [108, 106, 104] rfl hSep_ ?_
      show VX _ _ _ _ _ _ _ [(8, Value.pointer (some ⟨gB_, 0, none⟩)), (0, Value.pointer (some ⟨g0, 0, none⟩)), (1, str (d1)), (3, Value.pointer (some ⟨g1, 0, none⟩)), (4, Value.pointer (some ⟨g3, 0, none⟩)), (5, Value.pointer (some ⟨g5, 0, none⟩)), (6, Value.pointer (some ⟨g7, 0, none⟩)), (11, Value.bool (decide (d0.1 = none)))] [(108, mone g7 (.cells [Value.bool th].toArray 4 (0, 0))), (106, mone g5 (.cells [Value.bool met].toArray 4 (0, 0))), (104, mone g3 (.cells [str (val)].toArray 9 (0, 0))), (116, mnil), (117, mo_), (115, ml_), (114, mone D_ (.deferred (some []))), (1, mone g0 (.cells [Value.pointer ((d0.1).map fun g => ⟨g, 0, none⟩), Value.bool d0.2.1, Value.slice A0_2 (d0.2.2.length) (c0_2)].toArray E0 (0, 0))), (102, mone g1 (.cells [str (d1)].toArray 9 (0, 0))), (0, mout (wm W) (mone g0 (.cells [Value.pointer ((d0.1).map fun g => ⟨g, 0, none⟩), Value.bool d0.2.1, Value.slice A0_2 (d0.2.2.length) (c0_2)].toArray E0 (0, 0)))), (118, mone gB_ (.cells [Value.int .i64 (x_.1), Value.int .i64 (x_.2.1), Value.slice xA_ (x_.2.2.length) (xc_)].toArray 32 (0, 0)))]
      refine VX.block ?_
      refine VX.rs ?_
      refine VO.y rfl (.fa rfl tst32 rfl) ?_
      refine VO.y rfl (.ld1 118 rfl tk30 rfl (cellsAt_one rfl rfl)) ?_
      refine VO.y rfl (.lenS rfl tsl30) ?_
      refine VO.y rfl (.mkf rfl) ?_
      refine VO.callN 119 rfl fnOk47 rfl (fun W_ hW_ => search_ok (p1 := geK x_.2.2 d1) W_ x_.2.2.length bd fnOk48 (fun W2_ hW2_ i_ hi_ => get1_ok W2_ i_ (by omega) (d1 := x_) (Rd.mono hrx_ ((hW_.at (i := 0) rfl).trans hW2_)) ((hW_.at (i := 118) rfl).trans hW2_) (d2 := d1) (v2 := [str d1]) ⟨rfl, h1⟩ ((hW_.at (i := 102) rfl).trans hW2_) hi_) (by omega)) (fun v19 m19 hv19 => ?_)
      obtain ⟨kq19, rfl, hq1_19, hq2_19, hq3_19⟩ := hv19
      refine VO.as ?_
      refine VO.k9 0 1 3 4 5 6 8 9 11 ?_
      refine VX.seq ?_
      refine VX.regD _ 13 [(0, true), (1, true), (2, true), (3, true), (4, true), (5, true), (6, true), (7, true), (8, true), (9, true), (10, true), (11, true), (12, true)] follows (by kernel_rfl) (fun _ h => h.sub [119, 108, 106, 104, 116, 117, 115, 114, 1, 102, 0, 118]) ?_
      refine VD.y rfl rfl (.inl rfl) (.mv rfl) ?_
      refine VD.y rfl rfl (.inl rfl) (.fa rfl tst32 rfl) ?_
      refine VD.y rfl rfl (.inl rfl) (.ld1 118 rfl tk30 rfl (cellsAt_one rfl rfl)) ?_
      refine VD.y rfl rfl (.inl rfl) (.lenS rfl tsl30) ?_
      refine VD.y rfl rfl (.inl rfl) (.lss rfl rfl) ?_
      refine VD.y rfl rfl (.inl rfl) (.mv rfl) ?_
      refine VD.dec (s := 29) rfl (fun hc20 => ?_) (fun hc20 => ?_)
      · -- FBT
        refine VD.y rfl rfl (.inr ⟨_, _, rfl, _, rfl, rfl⟩) (.fa rfl tst32 rfl) ?_
        refine VD.y rfl rfl (.inr ⟨_, _, rfl, _, rfl, rfl⟩) (.ld1 118 rfl tk30 rfl (cellsAt_one rfl rfl)) ?_
        refine VD.y rfl rfl (.inr ⟨_, _, rfl, _, rfl, rfl⟩) (.mv rfl) ?_
        obtain ⟨x21, hx21⟩ : ∃ z_, (x_.2.2)[kq19]? = some z_ := ⟨_, List.getElem?_eq_getElem bd⟩
        obtain ⟨gg21, oo21, ec21, ea21, hce21, hre21⟩ := hro_.elem hx21
        cases ea21
        obtain ⟨rfl, q21_1, q21_2⟩ := open_Op (x0 := x21.1) (x1 := x21.2.1) (x2 := x21.2.2) hre21
        simp only [maxLen] at q21_1
        simp only [maxLen] at q21_2
        refine VD.y rfl rfl (.inr ⟨_, _, rfl, _, rfl, rfl⟩) (.ixI kq19 rfl rfl tsl30 rfl bd) ?_
        refine VD.y rfl rfl (.inr ⟨_, _, rfl, _, rfl, rfl⟩) (.fa rfl tst35 rfl) ?_
        refine VD.y rfl rfl (.inr ⟨_, _, rfl, _, rfl, rfl⟩) (.ld1 0 rfl tk9 rfl (hce21.at1 (j := 1) rfl)) ?_
        refine VD.y rfl rfl (.inr ⟨_, _, rfl, _, rfl, rfl⟩) (.ld1 102 rfl tk9 rfl (cellsAt_one rfl rfl)) ?_
        refine VD.nil rfl ?_ rfl
        refine VO.gy rfl ⟨_, rfl, rfl⟩ (.seql rfl rfl) ?_
        refine VO.y rfl (.pT rfl rfl) ?_
        refine VO.k10 0 1 3 4 5 6 8 9 11 38 ?_
        refine outN ?_
        refine VX.cond rfl (fun hc22 => ?_) (fun hc22 => ?_)
        · -- FBTT
          refine VX.seq ?_
          refine VX.inv _ (fun _ h => Inv.num h 106 2106 rfl) ?_
          refine VX.inv _ (fun _ h => Inv.num h 104 2104 rfl) ?_
          refine VX.regD _ 14 [(0, true), (1, true), (2, true), (3, true), (4, true), (5, true), (6, true), (7, true), (8, true), (9, true), (10, true), (11, true), (12, false), (13, false)] follows (by kernel_rfl) (fun _ h => h.sub [119, 108, 2106, 2104, 116, 117, 115, 114, 1, 102, 0, 118]) ?_
          refine VD.y rfl rfl (.inl rfl) (.fa rfl tst32 rfl) ?_
          refine VD.y rfl rfl (.inl rfl) (.ld1 118 rfl tk30 rfl (cellsAt_one rfl rfl)) ?_
          refine VD.y rfl rfl (.inl rfl) (.mv rfl) ?_
          refine VD.y rfl rfl (.inl rfl) (.ixI kq19 rfl rfl tsl30 rfl bd) ?_
          refine VD.y rfl rfl (.inl rfl) (.fa rfl tst35 rfl) ?_
          refine VD.y rfl rfl (.inl rfl) (.ld1 0 rfl tk9 rfl (hce21.at1 (j := 2) rfl)) ?_
          refine VD.y rfl rfl (.inl rfl) (.fa rfl tst32 rfl) ?_
          refine VD.y rfl rfl (.inl rfl) (.ld1 118 rfl tk30 rfl (cellsAt_one rfl rfl)) ?_
          refine VD.y rfl rfl (.inl rfl) (.mv rfl) ?_
          refine VD.y rfl rfl (.inl rfl) (.ixI kq19 rfl rfl tsl30 rfl bd) ?_
          refine VD.y rfl rfl (.inl rfl) (.fa rfl tst35 rfl) ?_
          refine VD.y rfl rfl (.inl rfl) (.ld1 0 rfl tk4 rfl (hce21.at1 (j := 0) rfl)) ?_
          refine VD.storeH (k := 1) (c' := [str (x21.2.2)]) 2104 rfl rfl rfl (.inr ⟨tk9, rfl⟩) rfl rfl rfl rfl rfl (fun _ h => h.sub [119, 108, 116, 117, 115, 114, 1, 102, 0, 118]) ?_
          refine VD.storeH (k := 1) (c' := [Value.bool true]) 2106 rfl rfl rfl (.inr ⟨tk4, rfl⟩) rfl rfl rfl rfl rfl (fun _ h => h.sub [119, 108, 116, 117, 115, 114, 1, 102, 0, 118]) ?_
          refine VD.nil rfl ?_ rfl
          refine VO.store (k := 1) (c' := [Value.bool x21.1]) 108 rfl rfl (.inr ⟨tk4, rfl⟩) rfl rfl rfl rfl rfl ?_
          refine VO.kp [108, 2106, 2104, 117, 115, 114, 1, 102, 0, 118] [(108, mone g7 (.cells [Value.bool x21.1].toArray 4 (0, 0))), (2106, mone g5 (.cells [Value.bool true].toArray 4 (0, 0))), (2104, mone g3 (.cells [str (x21.2.2)].toArray 9 (0, 0))), (117, mo_), (115, ml_), (114, mone D_ (.deferred (some []))), (1, mone g0 (.cells [Value.pointer ((d0.1).map fun g => ⟨g, 0, none⟩), Value.bool d0.2.1, Value.slice A0_2 (d0.2.2.length) (c0_2)].toArray E0 (0, 0))), (102, mone g1 (.cells [str (d1)].toArray 9 (0, 0))), (0, mout (wm W) (mone g0 (.cells [Value.pointer ((d0.1).map fun g => ⟨g, 0, none⟩), Value.bool d0.2.1, Value.slice A0_2 (d0.2.2.length) (c0_2)].toArray E0 (0, 0)))), (118, mone gB_ (.cells [Value.int .i64 (x_.1), Value.int .i64 (x_.2.1), Value.slice (some ⟨gg21, oo21, none⟩) (x_.2.2.length) (xc_)].toArray 32 (0, 0)))] ?_
          refine VO.k10 0 1 3 4 5 6 8 9 11 38 ?_
          refine outN ?_
          refine VX.ret ?_
          refine outBR ?_
          exact ⟨rfl, fun W_ hW_ => ⟨⟨x21.2.2, true, x21.1⟩, (hW_.gather (ids := [108, 2106, 2104]) 113 rfl).1.sub [117, 115, 113, 114, 1, 102, 0], .inr ⟨rfl, rfl, by exact getAt_hit hg hE0_ hxa_ (find_at hup_ ‹x_.2.2[kq19]? = some _› (by assumption)), (hW_.gather (ids := [108, 2106, 2104]) 113 rfl).2⟩⟩⟩
        · -- FBTF
          refine VX.skip ?_
          refine outBN ?_
          exact ⟨rfl, fun W_ hW_ => ⟨⟨val, met, th⟩, (hW_.gather (ids := [108, 106, 104]) 113 rfl).1.sub [117, 115, 113, 114, 1, 102, 0], .inl ⟨rfl, by exact getAt_next hg hE0_ hxa_ (find_not hup_ hq1_19 hq2_19 hq3_19 (by intro y_ hy_; first | (exfalso; have h_ := (List.getElem?_eq_some_iff.1 hy_).1; omega) | (rw [hx21] at hy_; cases hy_; assumption))), (hW_.gather (ids := [108, 106, 104]) 113 rfl).2⟩⟩⟩
      · -- FBF
        refine VD.gn rfl rfl (.inl ⟨_, rfl, rfl⟩) ?_
        refine VD.gn rfl rfl (.inl ⟨_, rfl, rfl⟩) ?_
        refine VD.gn rfl rfl (.inl ⟨_, rfl, rfl⟩) ?_
        refine VD.gn rfl rfl (.inl ⟨_, rfl, rfl⟩) ?_
        refine VD.gn rfl rfl (.inl ⟨_, rfl, rfl⟩) ?_
        refine VD.gn rfl rfl (.inl ⟨_, rfl, rfl⟩) ?_
        refine VD.gn rfl rfl (.inl ⟨_, rfl, rfl⟩) ?_
        refine VD.nil rfl ?_ rfl
        refine VO.gN ?_
        refine VO.y rfl (.pF rfl rfl) ?_
        refine VO.k10 0 1 3 4 5 6 8 9 11 38 ?_
        refine outN ?_
        refine VX.condF rfl ?_
        refine VX.skip ?_
        refine outBN ?_
        exact ⟨rfl, fun W_ hW_ => ⟨⟨val, met, th⟩, (hW_.gather (ids := [108, 106, 104]) 113 rfl).1.sub [117, 115, 113, 114, 1, 102, 0], .inl ⟨rfl, by exact getAt_next hg hE0_ hxa_ (find_not hup_ hq1_19 hq2_19 hq3_19 (by intro y_ hy_; first | (exfalso; have h_ := (List.getElem?_eq_some_iff.1 hy_).1; omega) | (rw [hx21] at hy_; cases hy_; assumption))), (hW_.gather (ids := [108, 106, 104]) 113 rfl).2⟩⟩⟩
    · -- FD
      rintro D_ at_ ⟨val, met, th⟩ ⟨hg, hSep_⟩ hDn_
      replace hg : getAt d0.2.2 d1 at_ := hg
      replace hSep_ : Seps (muns [mone g7 (.cells [Value.bool th].toArray 4 (0, 0)), mone g5 (.cells [Value.bool met].toArray 4 (0, 0)), mone g3 (.cells [str (val)].toArray 9 (0, 0))]) [mone g7 (.cells [Value.bool th].toArray 4 (0, 0)), mone g5 (.cells [Value.bool met].toArray 4 (0, 0)), mone g3 (.cells [str (val)].toArray 9 (0, 0))] := hSep_
      refine outBN ?_
      refine outN ?_
      refine VX.parts 113 [108, 106, 104] rfl hSep_ ?_
      show VX _ _ _ _ _ _ _ [(0, Value.pointer (some ⟨g0, 0, none⟩)), (1, str (d1)), (3, Value.pointer (some ⟨g1, 0, none⟩)), (4, Value.pointer (some ⟨g3, 0, none⟩)), (5, Value.pointer (some ⟨g5, 0, none⟩)), (6, Value.pointer (some ⟨g7, 0, none⟩)), (11, Value.bool (decide (d0.1 = none))), (16, Value.func (.func 78) #[] ca11.toArray)] [(108, mone g7 (.cells [Value.bool th].toArray 4 (0, 0))), (106, mone g5 (.cells [Value.bool met].toArray 4 (0, 0))), (104, mone g3 (.cells [str (val)].toArray 9 (0, 0))), (114, mone D_ (.deferred (some []))), (1, mone g0 (.cells [Value.pointer ((d0.1).map fun g => ⟨g, 0, none⟩), Value.bool d0.2.1, Value.slice A0_2 (d0.2.2.length) (c0_2)].toArray E0 (0, 0))), (102, mone g1 (.cells [str (d1)].toArray 9 (0, 0))), (0, mout (wm W) (mone g0 (.cells [Value.pointer ((d0.1).map fun g => ⟨g, 0, none⟩), Value.bool d0.2.1, Value.slice A0_2 (d0.2.2.length) (c0_2)].toArray E0 (0, 0))))]
      refine VX.rs ?_
      refine VO.store (k := 1) (c' := [str ([])]) 104 rfl rfl (.inr ⟨tk9, rfl⟩) rfl rfl rfl rfl rfl ?_
      refine VO.store (k := 1) (c' := [Value.bool false]) 106 rfl rfl (.inr ⟨tk4, rfl⟩) rfl rfl rfl rfl rfl ?_
      refine VO.store (k := 1) (c' := [Value.bool false]) 108 rfl rfl (.inr ⟨tk4, rfl⟩) rfl rfl rfl rfl rfl ?_
      refine VO.k8 0 1 3 4 5 6 11 16 ?_
      refine VX.ret ?_
      refine ⟨114, rfl, ?_⟩
      refine ⟨_, _, res_run (rs := [.cell 4 9, .cell 5 4, .cell 6 4]) rfl (.one 104 rfl tk9 rfl ⟨_, _, _, mone_self _ _, rfl⟩ (.one 106 rfl tk4 rfl ⟨_, _, _, mone_self _ _, rfl⟩ (.one 108 rfl tk4 rfl ⟨_, _, _, mone_self _ _, rfl⟩ .nil))), fun W_ hI => out_of (l := [mone g0 (.cells [Value.pointer ((d0.1).map fun g => ⟨g, 0, none⟩), Value.bool d0.2.1, Value.slice A0_2 (d0.2.2.length) (c0_2)].toArray E0 (0, 0))]) hI [1] rfl rfl (mle_refl _) (fun hS_ => ?_)⟩
      dsimp only [packV]
      refine ⟨?_, ?_⟩
      rotate_left
      · rw [muns_one]
      all_goals (first | rfl | (first | (rw [hs] <;> first | done | rfl) | (rw [getAt_end hg hDn_] <;> first | done | rfl)))
    · -- FX
      rintro D_ _ ⟨val, met, th⟩ ⟨rfl, hs, hSep_⟩ _
      replace hs : getR d0.2.2 d1 = (val, met, th) := hs
      replace hSep_ : Seps (muns [mone g7 (.cells [Value.bool th].toArray 4 (0, 0)), mone g5 (.cells [Value.bool met].toArray 4 (0, 0)), mone g3 (.cells [str (val)].toArray 9 (0, 0))]) [mone g7 (.cells [Value.bool th].toArray 4 (0, 0)), mone g5 (.cells [Value.bool met].toArray 4 (0, 0)), mone g3 (.cells [str (val)].toArray 9 (0, 0))] := hSep_
      refine outBR ?_
      refine outR ?_
      refine ⟨114, rfl, ?_⟩
      refine ⟨_, _, res_run (rs := [.cell 4 9, .cell 5 4, .cell 6 4]) rfl (.one 113 rfl tk9 rfl ⟨_, _, _, hSep_.1 _ (.tail _ (.tail _ (.head _))) _ _ (mone_self _ _), rfl⟩ (.one 113 rfl tk4 rfl ⟨_, _, _, hSep_.1 _ (.tail _ (.head _)) _ _ (mone_self _ _), rfl⟩ (.one 113 rfl tk4 rfl ⟨_, _, _, hSep_.1 _ (.head _) _ _ (mone_self _ _), rfl⟩ .nil))), fun W_ hI => out_of (l := [mone g0 (.cells [Value.pointer ((d0.1).map fun g => ⟨g, 0, none⟩), Value.bool d0.2.1, Value.slice A0_2 (d0.2.2.length) (c0_2)].toArray E0 (0, 0))]) hI [1] rfl rfl (mle_refl _) (fun hS_ => ?_)⟩
      dsimp only [packV]
      refine ⟨?_, ?_⟩
      rotate_left
      · rw [muns_one]
      all_goals (first | rfl | (first | (rw [hs] <;> first | done | rfl) | (rw [getAt_end hg hDn_] <;> first | done | rfl)))
def exR : DRun := (1, 2, [(false, [97], []), (true, [98], [49])])
def exR2 : DRun := (3, 3, [(true, [97], [57])])
def exBy : Bytes := [1, 2, 2, 0, 1, 97, 1, 1, 98, 1, 49]
theorem venc_byte {x : Nat} (h : x < 128) : venc x = [UInt8.ofNat x] := by rw [venc_last h, ofNat_mod]
theorem exR_body : runBody exR = exBy := by
  simp only [runBody, exR, opEnc, List.map_cons, List.map_nil, List.flatten_cons, List.flatten_nil, List.length_cons, List.length_nil, Int.toNat_one, show Int.toNat 2 = 2 from rfl]
  rw [venc_byte (x := 1) (by decide), venc_byte (x := 2) (by decide)]; decide
theorem exR2_body : runBody exR2 = [3, 3, 1, 1, 1, 97, 1, 57] := by
  simp only [runBody, exR2, opEnc, List.map_cons, List.map_nil, List.flatten_cons, List.flatten_nil, List.length_cons, List.length_nil, show Int.toNat 3 = 3 from rfl]
  rw [venc_byte (x := 3) (by decide), venc_byte (x := 0 + 1) (by decide)]; decide
theorem exR_frame : rFrame exR = 11 :: exBy := by
  unfold rFrame fEnc; rw [exR_body, venc_byte (by decide)]; rfl
theorem exR2_frame : rFrame exR2 = [8, 3, 3, 1, 1, 1, 97, 1, 57] := by
  unfold rFrame fEnc; rw [exR2_body, venc_byte (by decide)]; rfl
def ruD1 : DDisk := (dSync (dWrite newD 2 (11 :: exBy)).1).1
def ruD2 : DDisk := (dSync (dWrite ruD1 2 [8, 3, 3, 1, 1, 1, 97, 1, 57]).1).1
theorem ruE : runEncode exR = (exBy, 0) := by unfold runEncode; rw [if_pos (by decide), exR_body]
theorem ru0 : uOpen newD = (newD, 0) := by decide +kernel
theorem ru0l : (runF (dRead newD 2).1).1 = [] := by decide +kernel
theorem ru1 : uFlush newD false [] exR = ((ruD1, false, [exR]), 0) := by
  unfold uFlush; rw [if_neg (by decide), if_neg (by decide), if_neg (by decide), exR_frame, if_neg (by decide +kernel), if_neg (by decide +kernel)]; rfl
theorem ru2 : uFlush ruD1 false [exR] (4, 4, []) = ((ruD1, false, [exR]), 15) := by
  unfold uFlush; rw [if_neg (by decide +kernel), if_neg (by decide), if_pos (by decide)]
theorem ru3 : uFlush ruD1 false [exR] (3, 3, [(true, [97], [57])]) = ((ruD2, false, [exR, exR2]), 0) := by
  show uFlush ruD1 false [exR] exR2 = _
  unfold uFlush; rw [if_neg (by decide +kernel), if_neg (by decide), if_neg (by decide), exR2_frame, if_neg (by decide +kernel), if_neg (by decide +kernel)]; rfl
theorem ruG1 : getR [exR] [98] = ([49], true, true) := by decide
theorem ruG2 : getR [exR, exR2] [97] = ([57], true, true) := by decide
theorem ruG3 : getR [exR, exR2] [98] = ([49], true, true) := by decide
theorem ruG4 : getR [exR, exR2] [99] = ([], false, false) := by decide
theorem ruN1 : endR [exR] = 2 := by decide
theorem ruC1 : runCheck (2, 1, []) = 2 := by decide
theorem ruC2 : runCheck (1, 1, [(true, [98], []), (true, [97], [])]) = 2 := by decide
theorem ruC3 (x : DOp) : runCheck (1, 1, List.replicate 1025 x) = 3 := if_pos (by rw [List.length_replicate]; decide)
theorem fnOk10 : fnOk Try.prog 10 = true := by kernel_rfl
theorem fnOk11 : fnOk Try.prog 11 = true := by kernel_rfl
theorem fnOk12 : fnOk Try.prog 12 = true := by kernel_rfl
theorem fnOk13 : fnOk Try.prog 13 = true := by kernel_rfl
theorem fnOk9 : fnOk Try.prog 9 = true := by kernel_rfl
theorem example13_ok (W : World) : CallR Try.prog 12 [] W (mnil) (fun v m' => ∃ (s0 : List Value), v = .agg s0.toArray ∧ Ow TRun m' s0 (exR)) := by
  refine CallR.ofA (n := 5) Try.func12 rfl rfl rfl ?_
  refine VC.rs ?_
  refine VO.alloc 102 rfl tz32 (fun g1 => ?_)
  refine VO.k1 0 ?_
  refine VC.rs ?_
  refine VO.y rfl (.bst (cs := [Value.bool false, str ([97]), str ([])]) rfl tst35 tz35 rfl) ?_
  refine VO.y rfl (.bst (cs := [Value.bool true, str ([98]), str ([49])]) rfl tst35 tz35 rfl) ?_
  refine VO.bsl (cs := [Value.bool false, str ([97]), str ([]), Value.bool true, str ([98]), str ([49])]) 104 rfl rfl tsl30 tz35 rfl rfl (fun g3 => ?_)
  refine VO.y rfl (.bst (cs := [Value.int .i64 (1), Value.int .i64 (2), Value.slice (some ⟨g3, 0, none⟩) (2) (2)]) rfl tst32 tz32 rfl) ?_
  refine VO.store (k := 3) (c' := [Value.int .i64 (1), Value.int .i64 (2), Value.slice (some ⟨g3, 0, none⟩) (2) (2)]) 102 rfl rfl (.inl tk32) rfl rfl rfl rfl rfl ?_
  refine VO.k1 0 ?_
  refine VC.ret ?_
  have ho5 : OwnL TOp (mone g3 (.cells [Value.bool false, str ([97]), str ([]), Value.bool true, str ([98]), str ([49])].toArray 35 (0, 0))) mnil (Value.slice (some ⟨g3, 0, none⟩) (2) (2)) [(false, [97], []), (true, [98], [49])] := OwnL.lit 2 (All2c.cons (c1 := [Value.bool false, str ([97]), str ([])]) (mk_Op (m := _) false ([97]) [] bdm bdm) (All2c.cons (c1 := [Value.bool true, str ([98]), str ([49])]) (mk_Op (m := _) true ([98]) ([49]) bdm bdm) All2c.nil)) rfl rfl
  refine ⟨_, _, res_run (rs := [.cell 0 32]) rfl (.agg 102 rfl tk32 rfl ⟨_, _, _, mone_self _ _, Nat.le_of_ble_eq_true rfl, rfl⟩ .nil), fun W_ hI => out_of (l := [mone g3 (.cells [Value.bool false, str ([97]), str ([]), Value.bool true, str ([98]), str ([49])].toArray 35 (0, 0))]) hI [104] rfl rfl (mle_refl _) (fun hS_ => ?_)⟩
  dsimp only [packV]
  have he0 : (exR : Ty.Den TRun) = (1, 2, [(false, [97], []), (true, [98], [49])]) := by first | rfl | (simp [*]; done)
  refine ⟨[Value.int .i64 (1), Value.int .i64 (2), Value.slice (some ⟨g3, 0, none⟩) (2) (2)], ?_, ?_⟩
  rotate_left
  · rw [he0]; exact (mkO_Run 1 2 ([(false, [97], []), (true, [98], [49])]) hS_ bdk bdk (OwnL.ow ho5 rfl))
  all_goals (first | rfl | (simp [*]; done))
set_option maxHeartbeats 4000000 in
theorem lives13_ok (W : World) : CallR Try.prog 8 [] W (mnil) (fun v m' => v = .bool true) := by
  refine CallR.ofA (n := 59) Try.func8 rfl rfl rfl ?_
  refine VC.rs ?_
  refine VO.as ?_
  refine VO.k1 0 ?_
  refine VC.rs ?_
  refine VO.callN 101 rfl fnOk12 rfl (fun W hW => example13_ok W ) (fun v1 m1 hv1 => ?_)
  obtain ⟨s1_0, rfl, f1_0⟩ := hv1
  obtain ⟨q1_0_A2, q1_0_c2, q1_0_n2, rfl, q1_0_S, q1_0_0, q1_0_1, q1_0_2⟩ := openO_Run (x0 := exR.1) (x1 := exR.2.1) (x2 := exR.2.2) f1_0
  simp only [inK] at q1_0_0
  simp only [inK] at q1_0_1
  have q1_0_r2 := q1_0_2.rm
  refine VO.inv _ (fun _ h => h.parts (i := 101) rfl q1_0_S [102]) ?_
  refine VO.callN 103 rfl fnOk17 rfl (fun W hW => runEncode_ok W (show Rd TRun _ _ exR from (mk_Run (m := wm W) exR.1 exR.2.1 exR.2.2 bdk bdk (OwnL.rd (Ow.ownl q1_0_2 rfl mnil) (hW.at (i := 102) rfl) (mle_nil _))))) (fun v3 m3 hv3 => ?_)
  obtain ⟨s3_0, rfl, f3_0⟩ := hv3
  have hfa4 := runEncode_len exR
  obtain ⟨A3_0, c3_0, eq3_0, l3_0, k3_0⟩ := f3_0.slice
  subst eq3_0
  simp only [maxLen] at k3_0
  refine VO.mv ?_
  refine VO.y rfl (.ext rfl rfl) ?_
  refine VO.y rfl (.ext rfl rfl) ?_
  refine VO.as ?_
  refine VO.as ?_
  refine VO.k3 0 1 2 ?_
  refine VC.rs ?_
  refine VO.callN 105 rfl fnOk10 rfl (fun W hW => dNew_ok W ) (fun v5 m5 hv5 => ?_)
  obtain ⟨s5_0, rfl, f5_0⟩ := hv5
  have hfa6 := okD_new
  have hfa7 := (show wD newD = 0 from rfl)
  by_cases hsp8 : (uOpen newD).2 = 0
  · -- T
    refine VO.call 105 rfl fnOk9 rfl rfl (fun W hW => uOpenY_ok W (hW.at (i := 105) rfl) f5_0 (by assumption) (by first | (simp only [ru0, ru0l, ru1, ru2, ru3, ruE, ruG1, ruG2, ruG3, ruG4, ruN1, ruC1, ruC2, ruC3]; decide +kernel) | decide +kernel) (by assumption)) (fun v9 m9 hv9 => ?_)
    obtain ⟨s9_0, rfl, f9_0⟩ := hv9
    have hfa10 := (uopen_ok (show okD newD by assumption))
    have hfa11 := (uopen_w (show okD newD by assumption))
    have hfa12 := (runF_ok (dRead newD 2).1).1
    refine VO.mv ?_
    refine VO.y rfl (.ext rfl rfl) ?_
    refine VO.y rfl (.ext rfl rfl) ?_
    refine VO.as ?_
    refine VO.as ?_
    refine VO.kp [105, 103, 0] [(105, m9), (103, m3), (0, wm W)] ?_
    refine VO.k5 0 1 2 3 4 ?_
    refine VC.seq ?_
    refine VC.rs ?_
    refine VO.mv ?_
    refine VO.y rfl (.neq rfl rfl) ?_
    refine VO.mv ?_
    refine VO.dec (t := 20) rfl (fun hc13 => ?_) (fun hc13 => ?_)
    · -- TT
      first | exact absurd rfl hc13 | exact absurd (by first | rfl | decide | (simp only [ru0, ru0l, ru1, ru2, ru3, ruE, ruG1, ruG2, ruG3, ruG4, ruN1, ruC1, ruC2, ruC3]; first | done | rfl | decide | omega)) hc13 | exact absurd hc13 (by first | decide | (simp only [ru0, ru0l, ru1, ru2, ru3, ruE, ruG1, ruG2, ruG3, ruG4, ruN1, ruC1, ruC2, ruC3]; first | done | rfl | decide | omega)) | (simp only [ru0, ru0l, ru1, ru2, ru3, ruE, ruG1, ruG2, ruG3, ruG4, ruN1, ruC1, ruC2, ruC3] at hc13; first | done | exact absurd hc13 (by decide) | exact absurd rfl hc13)
    · -- TF
      refine VO.gy rfl ⟨_, rfl, rfl⟩ (.mv rfl) ?_
      refine VO.gy rfl ⟨_, rfl, rfl⟩ (.neq rfl rfl) ?_
      refine VO.y rfl (.pF rfl rfl) ?_
      refine VO.mv ?_
      refine VO.dec (t := 24) rfl (fun hc14 => ?_) (fun hc14 => ?_)
      · -- TFT
        first | exact absurd rfl hc14 | exact absurd (by first | rfl | decide | (simp only [ru0, ru0l, ru1, ru2, ru3, ruE, ruG1, ruG2, ruG3, ruG4, ruN1, ruC1, ruC2, ruC3]; first | done | rfl | decide | omega)) hc14 | exact absurd hc14 (by first | decide | (simp only [ru0, ru0l, ru1, ru2, ru3, ruE, ruG1, ruG2, ruG3, ruG4, ruN1, ruC1, ruC2, ruC3]; first | done | rfl | decide | omega)) | (simp only [ru0, ru0l, ru1, ru2, ru3, ruE, ruG1, ruG2, ruG3, ruG4, ruN1, ruC1, ruC2, ruC3] at hc14; first | done | exact absurd hc14 (by decide) | exact absurd rfl hc14)
      · -- TFF
        refine VO.gy rfl ⟨_, rfl, rfl⟩ (.mv rfl) ?_
        refine VO.gy rfl ⟨_, rfl, rfl⟩ (.pnil rfl rfl Try.underlying23 rfl) ?_
        refine VO.y rfl (.pF rfl rfl) ?_
        refine VO.mv ?_
        refine VO.gy rfl ⟨_, rfl, rfl⟩ (.mv rfl) ?_
        refine VO.gbsl (cs := [Value.int .u8 (1), Value.int .u8 (2), Value.int .u8 (2), Value.int .u8 (0), Value.int .u8 (1), Value.int .u8 (97), Value.int .u8 (1), Value.int .u8 (1), Value.int .u8 (98), Value.int .u8 (1), Value.int .u8 (49)]) 116 rfl ⟨_, rfl, rfl⟩ rfl tsl38 tz5 rfl rfl (fun g15 => ?_)
        have ho18 : OwnL .byte (mone g15 (.cells [Value.int .u8 (1), Value.int .u8 (2), Value.int .u8 (2), Value.int .u8 (0), Value.int .u8 (1), Value.int .u8 (97), Value.int .u8 (1), Value.int .u8 (1), Value.int .u8 (98), Value.int .u8 (1), Value.int .u8 (49)].toArray 5 (0, 0))) mnil (Value.slice (some ⟨g15, 0, none⟩) (11) (11)) [UInt8.ofNat 1, UInt8.ofNat 2, UInt8.ofNat 2, UInt8.ofNat 0, UInt8.ofNat 1, UInt8.ofNat 97, UInt8.ofNat 1, UInt8.ofNat 1, UInt8.ofNat 98, UInt8.ofNat 1, UInt8.ofNat 49] := OwnL.lit 11 (All2c.cons (c1 := [Value.int .u8 (1)]) (rd_byteN bd) (All2c.cons (c1 := [Value.int .u8 (2)]) (rd_byteN bd) (All2c.cons (c1 := [Value.int .u8 (2)]) (rd_byteN bd) (All2c.cons (c1 := [Value.int .u8 (0)]) (rd_byteN bd) (All2c.cons (c1 := [Value.int .u8 (1)]) (rd_byteN bd) (All2c.cons (c1 := [Value.int .u8 (97)]) (rd_byteN bd) (All2c.cons (c1 := [Value.int .u8 (1)]) (rd_byteN bd) (All2c.cons (c1 := [Value.int .u8 (1)]) (rd_byteN bd) (All2c.cons (c1 := [Value.int .u8 (98)]) (rd_byteN bd) (All2c.cons (c1 := [Value.int .u8 (1)]) (rd_byteN bd) (All2c.cons (c1 := [Value.int .u8 (49)]) (rd_byteN bd) All2c.nil))))))))))) rfl rfl
        refine VO.gcallN 117 rfl ⟨_, rfl, rfl⟩ fnOk22 rfl (fun W hW => SameBytes_ok W (OwnL.rd (Ow.ownl f3_0 rfl mnil) (hW.at (i := 103) rfl) (mle_nil _)) (OwnL.rd ho18 (hW.at (i := 116) rfl) (mle_nil _))) (fun v17 m17 hv17 => ?_)
        subst hv17
        refine VO.gy rfl ⟨_, rfl, rfl⟩ (.notD rfl) ?_
        refine VO.y rfl (.pF rfl rfl) ?_
        refine VO.mv ?_
        refine VO.dec (t := 34) rfl (fun hc19 => ?_) (fun hc19 => ?_)
        · -- TFFT
          first | exact absurd rfl hc19 | exact absurd (by first | rfl | decide | (simp only [ru0, ru0l, ru1, ru2, ru3, ruE, ruG1, ruG2, ruG3, ruG4, ruN1, ruC1, ruC2, ruC3]; first | done | rfl | decide | omega)) hc19 | exact absurd hc19 (by first | decide | (simp only [ru0, ru0l, ru1, ru2, ru3, ruE, ruG1, ruG2, ruG3, ruG4, ruN1, ruC1, ruC2, ruC3]; first | done | rfl | decide | omega)) | (simp only [ru0, ru0l, ru1, ru2, ru3, ruE, ruG1, ruG2, ruG3, ruG4, ruN1, ruC1, ruC2, ruC3] at hc19; first | done | exact absurd hc19 (by decide) | exact absurd rfl hc19)
        · -- TFFF
          refine VO.gy rfl ⟨_, rfl, rfl⟩ (.mv rfl) ?_
          refine VO.gcallN 120 rfl ⟨_, rfl, rfl⟩ fnOk12 rfl (fun W hW => example13_ok W ) (fun v20 m20 hv20 => ?_)
          obtain ⟨s20_0, rfl, f20_0⟩ := hv20
          obtain ⟨q20_0_A2, q20_0_c2, q20_0_n2, rfl, q20_0_S, q20_0_0, q20_0_1, q20_0_2⟩ := openO_Run (x0 := exR.1) (x1 := exR.2.1) (x2 := exR.2.2) f20_0
          simp only [inK] at q20_0_0
          simp only [inK] at q20_0_1
          have q20_0_r2 := q20_0_2.rm
          refine VO.inv _ (fun _ h => h.parts (i := 120) rfl q20_0_S [121]) ?_
          refine VO.gcall 105 rfl ⟨_, rfl, rfl⟩ fnOk11 rfl rfl (fun W hW => uFlush_ok W (hW.at (i := 105) rfl) f9_0 (show Rd TRun _ _ exR from (mk_Run (m := mout (wm W) (m9)) exR.1 exR.2.1 exR.2.2 bdk bdk (OwnL.rd (Ow.ownl q20_0_2 rfl mnil) (hW.out (i := 105) (j := 121) rfl rfl) (mle_nil _)))) (by assumption) (by first | (simp only [ru0, ru0l, ru1, ru2, ru3, ruE, ruG1, ruG2, ruG3, ruG4, ruN1, ruC1, ruC2, ruC3]; decide +kernel) | decide +kernel) (by assumption)) (fun v22 m22 hv22 => ?_)
          try dsimp only at hv22
          obtain ⟨rfl, w22_0⟩ := hv22
          have hfa23 := (flush_ok (br := false) (l := ((runF (dRead newD 2).1).1)) (x := exR) (show okD ((uOpen newD).1) by assumption))
          have hfa24 := (flush_w (br := false) (l := ((runF (dRead newD 2).1).1)) (x := exR) (show okD ((uOpen newD).1) by assumption))
          have hfa25 := (flush_okU (d := ((uOpen newD).1)) (br := false) (x := exR) (show okU ((runF (dRead newD 2).1).1) by assumption))
          refine VO.gy rfl ⟨_, rfl, rfl⟩ (.neq rfl rfl) ?_
          refine VO.y rfl (.pF rfl rfl) ?_
          refine VO.k6 0 1 2 3 4 39 ?_
          refine VC.cond rfl (fun hc26 => ?_) (fun hc26 => ?_)
          · -- TFFFT
            first | exact absurd rfl hc26 | exact absurd (by first | rfl | decide | (simp only [ru0, ru0l, ru1, ru2, ru3, ruE, ruG1, ruG2, ruG3, ruG4, ruN1, ruC1, ruC2, ruC3]; first | done | rfl | decide | omega)) hc26 | exact absurd hc26 (by first | decide | (simp only [ru0, ru0l, ru1, ru2, ru3, ruE, ruG1, ruG2, ruG3, ruG4, ruN1, ruC1, ruC2, ruC3]; first | done | rfl | decide | omega)) | (simp only [ru0, ru0l, ru1, ru2, ru3, ruE, ruG1, ruG2, ruG3, ruG4, ruN1, ruC1, ruC2, ruC3] at hc26; first | done | exact absurd hc26 (by decide) | exact absurd rfl hc26)
          · -- TFFFF
            refine VC.skip ?_
            refine outN ?_
            refine VC.rs ?_
            refine VO.mv ?_
            obtain ⟨q28_E, q28_A2, q28_c2, q28_n0, q28_n2, _, q28_S, q28_0, q28_2⟩ := openP_runRuns (x0 := (s5_0, (uFlush ((uOpen newD).1) false ((runF (dRead newD 2).1).1) exR).1.1)) (x1 := (uFlush ((uOpen newD).1) false ((runF (dRead newD 2).1).1) exR).1.2.1) (x2 := (uFlush ((uOpen newD).1) false ((runF (dRead newD 2).1).1) exR).1.2.2) w22_0
            dsimp only at q28_0
            have q28_r2 := q28_2.rm
            refine VO.inv _ (fun _ h => h.parts (i := 105) rfl q28_S [131, 129, 130]) ?_
            refine VO.call 131 rfl fnOk13 rfl rfl (fun W hW => uGet_ok W (d0 := ((some s5_0), (uFlush ((uOpen newD).1) false ((runF (dRead newD 2).1).1) exR).1.2)) (hW.at (i := 131) rfl) (Ow.rd q28_2 (hW.out (i := 131) (j := 130) rfl rfl)) ([98]) bdm (by assumption) (by first | assumption | simp)) (fun v27 m27 hv27 => ?_)
            try dsimp only at hv27
            obtain ⟨rfl, rfl⟩ := hv27
            refine VO.mv ?_
            refine VO.y rfl (.ext rfl rfl) ?_
            refine VO.y rfl (.ext rfl rfl) ?_
            refine VO.y rfl (.ext rfl rfl) ?_
            refine VO.as ?_
            refine VO.as ?_
            refine VO.as ?_
            refine VO.clsP 132 [131, 129, 130] rfl (fun hg32 => (mkP_runRuns (s5_0, (uFlush ((uOpen newD).1) false ((runF (dRead newD 2).1).1) exR).1.1) ((uFlush ((uOpen newD).1) false ((runF (dRead newD 2).1).1) exR).1.2.1) ((uFlush ((uOpen newD).1) false ((runF (dRead newD 2).1).1) exR).1.2.2) hg32 q28_0 q28_2)) (fun mc32 ho32 => ?_)
            refine VO.k9 0 1 2 3 4 5 6 7 39 ?_
            refine VC.rs ?_
            refine VO.mv ?_
            refine VO.call 132 rfl fnOk28 rfl rfl (fun W hW => uEnd_ok W (hW.at (i := 132) rfl) ho32 (by assumption)) (fun v33 m33 hv33 => ?_)
            try dsimp only at hv33
            obtain ⟨rfl, w33_0⟩ := hv33
            refine VO.y rfl (.eql rfl rfl) ?_
            refine VO.mv ?_
            refine VO.dec (t := 49) rfl (fun hc34 => ?_) (fun hc34 => ?_)
            · -- TFFFFT
              refine VO.gy rfl ⟨_, rfl, rfl⟩ (.mv rfl) ?_
              refine VO.gy rfl ⟨_, rfl, rfl⟩ (.seql rfl rfl) ?_
              refine VO.y rfl (.pT rfl rfl) ?_
              refine VO.mv ?_
              refine VO.dec (t := 53) rfl (fun hc35 => ?_) (fun hc35 => ?_)
              · -- TFFFFTT
                refine VO.gy rfl ⟨_, rfl, rfl⟩ (.mv rfl) ?_
                refine VO.y rfl (.pT rfl rfl) ?_
                refine VO.mv ?_
                refine VO.decB (t := 56) rfl (fun hc36 => ?_) (fun hc36 => ?_)
                · -- TFFFFTTT
                  refine VO.gy rfl ⟨_, rfl, rfl⟩ (.mv rfl) ?_
                  refine VO.y rfl (.pT rfl rfl) ?_
                  refine VO.as ?_
                  refine VO.kp [132, 103, 0] [(132, m33), (103, m3), (0, wm W)] ?_
                  refine VO.k9 0 1 2 3 4 5 6 7 39 ?_
                  refine VC.ret ?_
                  refine ⟨_, _, res_run (rs := [.tmp 0]) rfl (.tmp rfl .nil), fun W_ hI => out_of (l := []) hI [] rfl rfl (mle_refl _) (fun hS_ => ?_)⟩
                  dsimp only [packV]
                  all_goals (first | rfl | (first | exact congrArg Value.bool (decide_eq_true (by (simp only [ru0, ru0l, ru1, ru2, ru3, ruE, ruG1, ruG2, ruG3, ruG4, ruN1, ruC1, ruC2, ruC3]; first | done | rfl | decide | omega))) | (show Value.bool _ = Value.bool true; simp only [ru0, ru0l, ru1, ru2, ru3, ruE, ruG1, ruG2, ruG3, ruG4, ruN1, ruC1, ruC2, ruC3]; done) | rfl))
                · -- TFFFFTTF
                  first | exact absurd rfl hc36 | exact absurd (by first | rfl | decide | (simp only [ru0, ru0l, ru1, ru2, ru3, ruE, ruG1, ruG2, ruG3, ruG4, ruN1, ruC1, ruC2, ruC3]; first | done | rfl | decide | omega)) hc36 | exact absurd hc36 (by first | decide | (simp only [ru0, ru0l, ru1, ru2, ru3, ruE, ruG1, ruG2, ruG3, ruG4, ruN1, ruC1, ruC2, ruC3]; first | done | rfl | decide | omega)) | (simp only [ru0, ru0l, ru1, ru2, ru3, ruE, ruG1, ruG2, ruG3, ruG4, ruN1, ruC1, ruC2, ruC3] at hc36; first | done | exact absurd hc36 (by decide) | exact absurd rfl hc36)
              · -- TFFFFTF
                first | exact absurd rfl hc35 | exact absurd (by first | rfl | decide | (simp only [ru0, ru0l, ru1, ru2, ru3, ruE, ruG1, ruG2, ruG3, ruG4, ruN1, ruC1, ruC2, ruC3]; first | done | rfl | decide | omega)) hc35 | exact absurd hc35 (by first | decide | (simp only [ru0, ru0l, ru1, ru2, ru3, ruE, ruG1, ruG2, ruG3, ruG4, ruN1, ruC1, ruC2, ruC3]; first | done | rfl | decide | omega)) | (simp only [ru0, ru0l, ru1, ru2, ru3, ruE, ruG1, ruG2, ruG3, ruG4, ruN1, ruC1, ruC2, ruC3] at hc35; first | done | exact absurd hc35 (by decide) | exact absurd rfl hc35)
            · -- TFFFFF
              first | exact absurd rfl hc34 | exact absurd (by first | rfl | decide | (simp only [ru0, ru0l, ru1, ru2, ru3, ruE, ruG1, ruG2, ruG3, ruG4, ruN1, ruC1, ruC2, ruC3]; first | done | rfl | decide | omega)) hc34 | exact absurd hc34 (by first | decide | (simp only [ru0, ru0l, ru1, ru2, ru3, ruE, ruG1, ruG2, ruG3, ruG4, ruN1, ruC1, ruC2, ruC3]; first | done | rfl | decide | omega)) | (simp only [ru0, ru0l, ru1, ru2, ru3, ruE, ruG1, ruG2, ruG3, ruG4, ruN1, ruC1, ruC2, ruC3] at hc34; first | done | exact absurd hc34 (by decide) | exact absurd rfl hc34)
  · -- F
    first | exact absurd rfl hsp8 | exact absurd (by first | rfl | decide | (simp only [ru0, ru0l, ru1, ru2, ru3, ruE, ruG1, ruG2, ruG3, ruG4, ruN1, ruC1, ruC2, ruC3]; first | done | rfl | decide | omega)) hsp8 | exact absurd hsp8 (by first | decide | (simp only [ru0, ru0l, ru1, ru2, ru3, ruE, ruG1, ruG2, ruG3, ruG4, ruN1, ruC1, ruC2, ruC3]; first | done | rfl | decide | omega)) | (simp only [ru0, ru0l, ru1, ru2, ru3, ruE, ruG1, ruG2, ruG3, ruG4, ruN1, ruC1, ruC2, ruC3] at hsp8; first | done | exact absurd hsp8 (by decide) | exact absurd rfl hsp8)
theorem fnOk29 : fnOk Try.prog 29 = true := by kernel_rfl
theorem fnOk8 : fnOk Try.prog 8 = true := by kernel_rfl
theorem tk23 : tk Try.prog 23 = some none := by kernel_rfl
theorem tsl56 : tsl Try.prog 56 = some (23, 1, 8) := by kernel_rfl
theorem tz23 : tz Try.prog 23 = some [.pointer none] := by kernel_rfl
theorem uNone0_ok_ (W : World) {l_ : List DRun} {br_ : Bool} {m0 : Mem} (hm : mle (m0) (wm W)) {g0 : Nat} (h0 : Ow (.ptr TrunRuns0) m0 [.pointer (some ⟨g0, 0, none⟩)] (g0, (none, br_, l_))) : CallR Try.prog 42 [.pointer (some ⟨g0, 0, none⟩)] W (m0) (fun v m' => v = .bool true ∧ Ow (.ptr TrunRuns0) m' [.pointer (some ⟨g0, 0, none⟩)] (g0, (none, br_, l_))) := by
  refine CallR.ofB (n := 12) hm Try.func42 rfl rfl rfl ?_
  refine VC.rs ?_
  refine VO.as ?_
  refine VO.k2 0 2 ?_
  refine VC.rs ?_
  refine VO.mv ?_
  refine VO.y rfl (.pnil rfl rfl Try.underlying23 rfl) ?_
  refine VO.mv ?_
  refine VO.gy rfl ⟨_, rfl, rfl⟩ (.mv rfl) ?_
  refine VO.gy rfl ⟨_, rfl, rfl⟩ (.nilp rfl) ?_
  refine VO.gy rfl ⟨_, rfl, rfl⟩ (.fa rfl tst55 rfl) ?_
  obtain ⟨q1_E, q1_A2, q1_c2, q1_n2, _, q1_S, q1_2⟩ := openP_runRuns0 (x0 := none) (x1 := br_) (x2 := l_) h0
  have q1_r2 := q1_2.rm
  refine VO.inv _ (fun _ h => h.parts (i := 1) rfl q1_S [103, 102]) ?_
  refine VO.gy rfl ⟨_, rfl, rfl⟩ (.ld1 103 rfl tk27 rfl (cellsAt_one rfl rfl)) ?_
  refine VO.gy rfl ⟨_, rfl, rfl⟩ (.pnil rfl rfl Try.underlying27 rfl) ?_
  refine VO.y rfl (.pF rfl rfl) ?_
  refine VO.as ?_
  refine VO.clsP 104 [103, 102] rfl (fun hg4 => (mkP_runRuns0 none br_ l_ hg4 q1_2)) (fun mc4 ho4 => ?_)
  refine VO.k2 0 2 ?_
  refine VC.ret ?_
  refine ⟨_, _, res_run (rs := [.tmp 2]) rfl (.tmp rfl .nil), fun W_ hI => out_of (l := [mc4]) hI [104] rfl rfl (mle_refl _) (fun hS_ => ?_)⟩
  dsimp only [packV]
  have hm0_ : ((none, br_, l_) : DrunRuns0) = (none, br_, l_) := by first | rfl | (simp [*]; done)
  refine ⟨?_, ?_⟩
  rotate_left
  · rw [hm0_]; exact (Ow.up ho4 (hS_.1 _ (.head _)))
  all_goals (first | rfl | (simp [*]; done))
theorem uFlushN_ok_ (W : World) {v1 : List Value} {d1 : DRun} (h1 : Rd TRun (wm W) v1 d1) : CallR Try.prog 11 [.pointer none, .agg v1.toArray] W (mnil) (fun v m' => v = .int .i64 (1)) := by
  obtain ⟨p1_A2, p1_c2, rfl, p1_0, p1_1, p1_2⟩ := open_Run (x0 := d1.1) (x1 := d1.2.1) (x2 := d1.2.2) h1
  simp only [inK] at p1_0
  simp only [inK] at p1_1
  have p1_r2 := Rd.room p1_2
  refine CallR.ofA (n := 76) Try.func11 rfl rfl rfl ?_
  refine VC.rs ?_
  refine VO.box (cs := [Value.int .i64 (d1.1), Value.int .i64 (d1.2.1), Value.slice p1_A2 (d1.2.2.length) (p1_c2)]) 102 rfl rfl rfl (fun g1 => ?_)
  refine VO.as ?_
  refine VO.k4 0 1 3 4 ?_
  refine VC.seq ?_
  refine VC.rs ?_
  refine VO.mv ?_
  refine VO.callN 103 rfl fnOk42 rfl (fun W hW => uNoneN_ok W ) (fun v3 m3 hv3 => ?_)
  subst hv3
  refine VO.k5 0 1 3 4 9 ?_
  refine VC.cond rfl (fun hc4 => ?_) (fun hc4 => ?_)
  · -- T
    refine VC.rs ?_
    refine VO.as ?_
    refine VO.kp [102, 0] [(102, mone g1 (.cells [Value.int .i64 (d1.1), Value.int .i64 (d1.2.1), Value.slice p1_A2 (d1.2.2.length) (p1_c2)].toArray 32 (0, 0))), (0, wm W)] ?_
    refine VO.k5 0 1 3 4 9 ?_
    refine VC.ret ?_
    refine outR ?_
    refine ⟨_, _, res_run (rs := [.tmp 4]) rfl (.tmp rfl .nil), fun W_ hI => out_of (l := []) hI [] rfl rfl (mle_refl _) (fun hS_ => ?_)⟩
    dsimp only [packV]
    all_goals (first | rfl | (simp [*]; done))
  · -- F
    exact absurd trivial hc4
theorem uFlush0_ok_ (W : World) {l_ : List DRun} {br_ : Bool} {m0 : Mem} (hm : mle (m0) (wm W)) {g0 : Nat} (h0 : Ow (.ptr TrunRuns0) m0 [.pointer (some ⟨g0, 0, none⟩)] (g0, (none, br_, l_))) {v1 : List Value} {d1 : DRun} (h1 : Rd TRun (mout (wm W) (m0)) v1 d1) : CallR Try.prog 11 [.pointer (some ⟨g0, 0, none⟩), .agg v1.toArray] W (m0) (fun v m' => v = .int .i64 (1) ∧ Ow (.ptr TrunRuns0) m' [.pointer (some ⟨g0, 0, none⟩)] (g0, (none, br_, l_))) := by
  obtain ⟨p1_A2, p1_c2, rfl, p1_0, p1_1, p1_2⟩ := open_Run (x0 := d1.1) (x1 := d1.2.1) (x2 := d1.2.2) h1
  simp only [inK] at p1_0
  simp only [inK] at p1_1
  have p1_r2 := Rd.room p1_2
  refine CallR.ofB (n := 76) hm Try.func11 rfl rfl rfl ?_
  refine VC.rs ?_
  refine VO.box (cs := [Value.int .i64 (d1.1), Value.int .i64 (d1.2.1), Value.slice p1_A2 (d1.2.2.length) (p1_c2)]) 102 rfl rfl rfl (fun g1 => ?_)
  refine VO.as ?_
  refine VO.k4 0 1 3 4 ?_
  refine VC.seq ?_
  refine VC.rs ?_
  refine VO.mv ?_
  refine VO.call 1 rfl fnOk42 rfl rfl (fun W hW => uNone0_ok_ W (hW.at (i := 1) rfl) h0) (fun v3 m3 hv3 => ?_)
  try dsimp only at hv3
  obtain ⟨rfl, w3_0⟩ := hv3
  refine VO.k5 0 1 3 4 9 ?_
  refine VC.condT rfl ?_
  refine VC.rs ?_
  refine VO.as ?_
  refine VO.kp [1, 102, 0] [(1, m3), (102, mone g1 (.cells [Value.int .i64 (d1.1), Value.int .i64 (d1.2.1), Value.slice p1_A2 (d1.2.2.length) (p1_c2)].toArray 32 (0, 0))), (0, mout (wm W) (m0))] ?_
  refine VO.k5 0 1 3 4 9 ?_
  refine VC.ret ?_
  refine outR ?_
  refine ⟨_, _, res_run (rs := [.tmp 4]) rfl (.tmp rfl .nil), fun W_ hI => out_of (l := [m3]) hI [1] rfl rfl (mle_refl _) (fun hS_ => ?_)⟩
  dsimp only [packV]
  have hm0_ : ((none, br_, l_) : DrunRuns0) = (none, br_, l_) := by first | rfl | (simp [*]; done)
  refine ⟨?_, ?_⟩
  rotate_left
  · rw [hm0_]; exact (Ow.up w3_0 (hS_.1 _ (.head _)))
  all_goals (first | rfl | (simp [*]; done))
theorem uEndN_ok_ (W : World) : CallR Try.prog 28 [.pointer none] W (mnil) (fun v m' => v = .int .i64 (0)) := by
  refine CallR.ofA (n := 26) Try.func28 rfl rfl rfl ?_
  refine VC.rs ?_
  refine VO.as ?_
  refine VO.k2 0 2 ?_
  refine VC.seq ?_
  refine VC.rs ?_
  refine VO.mv ?_
  refine VO.callN 101 rfl fnOk42 rfl (fun W hW => uNoneN_ok W ) (fun v1 m1 hv1 => ?_)
  subst hv1
  refine VO.mv ?_
  refine VO.dec (t := 5) rfl (fun hc2 => ?_) (fun hc2 => ?_)
  · -- T
    refine VO.gN ?_
    refine VO.gN ?_
    refine VO.gN ?_
    refine VO.gN ?_
    refine VO.gN ?_
    refine VO.gN ?_
    refine VO.y rfl (.pT rfl rfl) ?_
    refine VO.k3 0 2 12 ?_
    refine VC.condT rfl ?_
    refine VC.rs ?_
    refine VO.as ?_
    refine VO.kp [0] [(0, wm W)] ?_
    refine VO.k3 0 2 12 ?_
    refine VC.ret ?_
    refine outR ?_
    refine ⟨_, _, res_run (rs := [.tmp 2]) rfl (.tmp rfl .nil), fun W_ hI => out_of (l := []) hI [] rfl rfl (mle_refl _) (fun hS_ => ?_)⟩
    dsimp only [packV]
    all_goals (first | rfl | (simp [*]; done))
  · -- F
    exact absurd trivial hc2
theorem uEnd0_ok_ (W : World) {l_ : List DRun} {br_ : Bool} {m0 : Mem} (hm : mle (m0) (wm W)) {g0 : Nat} (h0 : Ow (.ptr TrunRuns0) m0 [.pointer (some ⟨g0, 0, none⟩)] (g0, (none, br_, l_))) : CallR Try.prog 28 [.pointer (some ⟨g0, 0, none⟩)] W (m0) (fun v m' => v = .int .i64 (0) ∧ Ow (.ptr TrunRuns0) m' [.pointer (some ⟨g0, 0, none⟩)] (g0, (none, br_, l_))) := by
  refine CallR.ofB (n := 26) hm Try.func28 rfl rfl rfl ?_
  refine VC.rs ?_
  refine VO.as ?_
  refine VO.k2 0 2 ?_
  refine VC.seq ?_
  refine VC.rs ?_
  refine VO.mv ?_
  refine VO.call 1 rfl fnOk42 rfl rfl (fun W hW => uNone0_ok_ W (hW.at (i := 1) rfl) h0) (fun v1 m1 hv1 => ?_)
  try dsimp only at hv1
  obtain ⟨rfl, w1_0⟩ := hv1
  refine VO.mv ?_
  refine VO.gN ?_
  refine VO.gN ?_
  refine VO.gN ?_
  refine VO.gN ?_
  refine VO.gN ?_
  refine VO.gN ?_
  refine VO.y rfl (.pT rfl rfl) ?_
  refine VO.k3 0 2 12 ?_
  refine VC.condT rfl ?_
  refine VC.rs ?_
  refine VO.as ?_
  refine VO.kp [1, 0] [(1, m1), (0, mout (wm W) (m0))] ?_
  refine VO.k3 0 2 12 ?_
  refine VC.ret ?_
  refine outR ?_
  refine ⟨_, _, res_run (rs := [.tmp 2]) rfl (.tmp rfl .nil), fun W_ hI => out_of (l := [m1]) hI [1] rfl rfl (mle_refl _) (fun hS_ => ?_)⟩
  dsimp only [packV]
  have hm0_ : ((none, br_, l_) : DrunRuns0) = (none, br_, l_) := by first | rfl | (simp [*]; done)
  refine ⟨?_, ?_⟩
  rotate_left
  · rw [hm0_]; exact (Ow.up w1_0 (hS_.1 _ (.head _)))
  all_goals (first | rfl | (simp [*]; done))
theorem uListN_ok_ (W : World) : CallR Try.prog 29 [.pointer none] W (mnil) (fun v m' => ∃ (s0 : Value), v = s0 ∧ Ow (.sl TRun) m' [s0] (([] : List DRun))) := by
  refine CallR.ofA (n := 24) Try.func29 rfl rfl rfl ?_
  refine VC.rs ?_
  refine VO.as ?_
  refine VO.k2 0 2 ?_
  refine VC.seq ?_
  refine VC.rs ?_
  refine VO.mv ?_
  refine VO.callN 101 rfl fnOk42 rfl (fun W hW => uNoneN_ok W ) (fun v1 m1 hv1 => ?_)
  subst hv1
  refine VO.k3 0 2 7 ?_
  refine VC.cond rfl (fun hc2 => ?_) (fun hc2 => ?_)
  · -- T
    refine VC.rs ?_
    refine VO.as ?_
    refine VO.kp [0] [(0, wm W)] ?_
    refine VO.k3 0 2 7 ?_
    refine VC.ret ?_
    refine outR ?_
    refine ⟨_, _, res_run (rs := [.tmp 2]) rfl (.tmp rfl .nil), fun W_ hI => out_of (l := []) hI [] rfl rfl (mle_refl _) (fun hS_ => ?_)⟩
    dsimp only [packV]
    have he0 : (([] : List DRun) : Ty.Den (.sl TRun)) = [] := by first | rfl | (simp [*]; done)
    refine ⟨Value.slice none (0) (0), ?_, ?_⟩
    rotate_left
    · rw [he0]; exact (Ow.nil _ _)
    all_goals (first | rfl | (simp [*]; done))
  · -- F
    exact absurd trivial hc2
theorem uList0_ok_ (W : World) {l_ : List DRun} {br_ : Bool} {m0 : Mem} (hm : mle (m0) (wm W)) {g0 : Nat} (h0 : Ow (.ptr TrunRuns0) m0 [.pointer (some ⟨g0, 0, none⟩)] (g0, (none, br_, l_))) : CallR Try.prog 29 [.pointer (some ⟨g0, 0, none⟩)] W (m0) (fun v m' => ∃ (s0 : Value), ∃ (p0 : Mem), ∃ (p1 : Mem), v = s0 ∧ Seps m' [p0, p1] ∧ Ow (.sl TRun) p0 [s0] (([] : List DRun)) ∧ Ow (.ptr TrunRuns0) p1 [.pointer (some ⟨g0, 0, none⟩)] (g0, (none, br_, l_))) := by
  refine CallR.ofB (n := 24) hm Try.func29 rfl rfl rfl ?_
  refine VC.rs ?_
  refine VO.as ?_
  refine VO.k2 0 2 ?_
  refine VC.seq ?_
  refine VC.rs ?_
  refine VO.mv ?_
  refine VO.call 1 rfl fnOk42 rfl rfl (fun W hW => uNone0_ok_ W (hW.at (i := 1) rfl) h0) (fun v1 m1 hv1 => ?_)
  try dsimp only at hv1
  obtain ⟨rfl, w1_0⟩ := hv1
  refine VO.k3 0 2 7 ?_
  refine VC.condT rfl ?_
  refine VC.rs ?_
  refine VO.as ?_
  refine VO.kp [1, 0] [(1, m1), (0, mout (wm W) (m0))] ?_
  refine VO.k3 0 2 7 ?_
  refine VC.ret ?_
  refine outR ?_
  refine ⟨_, _, res_run (rs := [.tmp 2]) rfl (.tmp rfl .nil), fun W_ hI => out_of (l := [m1]) hI [1] rfl rfl (mle_refl _) (fun hS_ => ?_)⟩
  dsimp only [packV]
  have he0 : (([] : List DRun) : Ty.Den (.sl TRun)) = [] := by first | rfl | (simp [*]; done)
  have hm0_ : ((none, br_, l_) : DrunRuns0) = (none, br_, l_) := by first | rfl | (simp [*]; done)
  refine ⟨Value.slice none (0) (0), muns [], muns [m1], ?_, ?_, ?_, ?_⟩
  rotate_left
  · exact Seps.grp (ls := [[], [m1]]) hS_
  · rw [he0]; exact (Ow.nil _ _)
  · rw [hm0_]; exact (Ow.up w1_0 ((Seps.self hS_ (List.Sublist.cons_cons _ List.Sublist.slnil)).1 _ (.head _)))
  all_goals (first | rfl | (simp [*]; done))
theorem uGetN_ok_ (W : World) (d1 : List UInt8) (h1 : d1.length ≤ maxLen) : CallR Try.prog 13 [.pointer none, str d1] W (mnil) (fun v m' => v = .tuple #[str (([] : List UInt8)), .bool (false), .bool (false)]) := by
  have h1' := h1; simp only [maxLen] at h1'
  refine CallR.ofA (n := 51) Try.func13 rfl rfl rfl ?_
  refine VC.rs ?_
  refine VO.box (cs := [str (d1)]) 102 rfl rfl rfl (fun g1 => ?_)
  refine VO.alloc 104 rfl tz9 (fun g3 => ?_)
  refine VO.alloc 106 rfl tz4 (fun g5 => ?_)
  refine VO.alloc 108 rfl tz4 (fun g7 => ?_)
  refine VO.k6 0 1 3 4 5 6 ?_
  refine VC.seq ?_
  refine VC.rs ?_
  refine VO.mv ?_
  refine VO.callN 109 rfl fnOk42 rfl (fun W hW => uNoneN_ok W ) (fun v9 m9 hv9 => ?_)
  subst hv9
  refine VO.k7 0 1 3 4 5 6 11 ?_
  refine VC.cond rfl (fun hc10 => ?_) (fun hc10 => ?_)
  · -- T
    refine VC.rs ?_
    refine VO.store (k := 1) (c' := [str ([])]) 104 rfl rfl (.inr ⟨tk9, rfl⟩) rfl rfl rfl rfl rfl ?_
    refine VO.store (k := 1) (c' := [Value.bool false]) 106 rfl rfl (.inr ⟨tk4, rfl⟩) rfl rfl rfl rfl rfl ?_
    refine VO.store (k := 1) (c' := [Value.bool false]) 108 rfl rfl (.inr ⟨tk4, rfl⟩) rfl rfl rfl rfl rfl ?_
    refine VO.kp [108, 106, 104, 102, 0] [(108, mone g7 (.cells [Value.bool false].toArray 4 (0, 0))), (106, mone g5 (.cells [Value.bool false].toArray 4 (0, 0))), (104, mone g3 (.cells [str ([])].toArray 9 (0, 0))), (102, mone g1 (.cells [str (d1)].toArray 9 (0, 0))), (0, wm W)] ?_
    refine VO.k7 0 1 3 4 5 6 11 ?_
    refine VC.ret ?_
    refine outR ?_
    refine ⟨_, _, res_run (rs := [.cell 4 9, .cell 5 4, .cell 6 4]) rfl (.one 104 rfl tk9 rfl ⟨_, _, _, mone_self _ _, rfl⟩ (.one 106 rfl tk4 rfl ⟨_, _, _, mone_self _ _, rfl⟩ (.one 108 rfl tk4 rfl ⟨_, _, _, mone_self _ _, rfl⟩ .nil))), fun W_ hI => out_of (l := []) hI [] rfl rfl (mle_refl _) (fun hS_ => ?_)⟩
    dsimp only [packV]
    all_goals (first | rfl | (simp [*]; done))
  · -- F
    exact absurd trivial hc10
theorem uGet0_ok_ (W : World) {l_ : List DRun} {br_ : Bool} {m0 : Mem} (hm : mle (m0) (wm W)) {g0 : Nat} (h0 : Ow (.ptr TrunRuns0) m0 [.pointer (some ⟨g0, 0, none⟩)] (g0, (none, br_, l_))) (d1 : List UInt8) (h1 : d1.length ≤ maxLen) : CallR Try.prog 13 [.pointer (some ⟨g0, 0, none⟩), str d1] W (m0) (fun v m' => v = .tuple #[str (([] : List UInt8)), .bool (false), .bool (false)] ∧ Ow (.ptr TrunRuns0) m' [.pointer (some ⟨g0, 0, none⟩)] (g0, (none, br_, l_))) := by
  have h1' := h1; simp only [maxLen] at h1'
  refine CallR.ofB (n := 51) hm Try.func13 rfl rfl rfl ?_
  refine VC.rs ?_
  refine VO.box (cs := [str (d1)]) 102 rfl rfl rfl (fun g1 => ?_)
  refine VO.alloc 104 rfl tz9 (fun g3 => ?_)
  refine VO.alloc 106 rfl tz4 (fun g5 => ?_)
  refine VO.alloc 108 rfl tz4 (fun g7 => ?_)
  refine VO.k6 0 1 3 4 5 6 ?_
  refine VC.seq ?_
  refine VC.rs ?_
  refine VO.mv ?_
  refine VO.call 1 rfl fnOk42 rfl rfl (fun W hW => uNone0_ok_ W (hW.at (i := 1) rfl) h0) (fun v9 m9 hv9 => ?_)
  try dsimp only at hv9
  obtain ⟨rfl, w9_0⟩ := hv9
  refine VO.k7 0 1 3 4 5 6 11 ?_
  refine VC.condT rfl ?_
  refine VC.rs ?_
  refine VO.store (k := 1) (c' := [str ([])]) 104 rfl rfl (.inr ⟨tk9, rfl⟩) rfl rfl rfl rfl rfl ?_
  refine VO.store (k := 1) (c' := [Value.bool false]) 106 rfl rfl (.inr ⟨tk4, rfl⟩) rfl rfl rfl rfl rfl ?_
  refine VO.store (k := 1) (c' := [Value.bool false]) 108 rfl rfl (.inr ⟨tk4, rfl⟩) rfl rfl rfl rfl rfl ?_
  refine VO.kp [1, 108, 106, 104, 102, 0] [(1, m9), (108, mone g7 (.cells [Value.bool false].toArray 4 (0, 0))), (106, mone g5 (.cells [Value.bool false].toArray 4 (0, 0))), (104, mone g3 (.cells [str ([])].toArray 9 (0, 0))), (102, mone g1 (.cells [str (d1)].toArray 9 (0, 0))), (0, mout (wm W) (m0))] ?_
  refine VO.k7 0 1 3 4 5 6 11 ?_
  refine VC.ret ?_
  refine outR ?_
  refine ⟨_, _, res_run (rs := [.cell 4 9, .cell 5 4, .cell 6 4]) rfl (.one 104 rfl tk9 rfl ⟨_, _, _, mone_self _ _, rfl⟩ (.one 106 rfl tk4 rfl ⟨_, _, _, mone_self _ _, rfl⟩ (.one 108 rfl tk4 rfl ⟨_, _, _, mone_self _ _, rfl⟩ .nil))), fun W_ hI => out_of (l := [m9]) hI [1] rfl rfl (mle_refl _) (fun hS_ => ?_)⟩
  dsimp only [packV]
  have hm0_ : ((none, br_, l_) : DrunRuns0) = (none, br_, l_) := by first | rfl | (simp [*]; done)
  refine ⟨?_, ?_⟩
  rotate_left
  · rw [hm0_]; exact (Ow.up w9_0 (hS_.1 _ (.head _)))
  all_goals (first | rfl | (simp [*]; done))
set_option maxHeartbeats 4000000 in
theorem runNil_ok (W : World) {v0 : List Value} {d0 : DRun} (h0 : Rd TRun (wm W) v0 d0) (d1 : List UInt8) (h1 : d1.length ≤ maxLen) : CallR Try.prog 5 [.agg v0.toArray, str d1] W (mnil) (fun v m' => v = .bool true) := by
  obtain ⟨p0_A2, p0_c2, rfl, p0_0, p0_1, p0_2⟩ := open_Run (x0 := d0.1) (x1 := d0.2.1) (x2 := d0.2.2) h0
  simp only [inK] at p0_0
  simp only [inK] at p0_1
  have p0_r2 := Rd.room p0_2
  have h1' := h1; simp only [maxLen] at h1'
  refine CallR.ofA (n := 94) Try.func5 rfl rfl rfl ?_
  refine VC.rs ?_
  have hz0 : okD ((false, false, false, 0, 0, ([], [], [], []), []) : DdiskDisk) := okD_zero
  refine VO.box (cs := [Value.int .i64 (d0.1), Value.int .i64 (d0.2.1), Value.slice p0_A2 (d0.2.2.length) (p0_c2)]) 102 rfl rfl rfl (fun g1 => ?_)
  refine VO.as ?_
  refine VO.k4 0 1 2 4 ?_
  refine VC.rs ?_
  refine VO.y rfl (.bst (cs := [Value.pointer none, Value.bool false, Value.slice none (0) (0)]) rfl tst55 tz55 rfl) ?_
  refine VO.box (cs := [Value.pointer none, Value.bool false, Value.slice none (0) (0)]) 104 rfl rfl rfl (fun g3 => ?_)
  refine VO.bsl (cs := [Value.pointer none, Value.pointer (some ⟨g3, 0, none⟩)]) 106 rfl rfl tsl56 tz23 rfl rfl (fun g5 => ?_)
  refine VO.as ?_
  refine VO.k5 0 1 2 4 5 ?_
  refine VC.seq ?_
  refine VC.rs ?_
  refine VO.as ?_
  refine VO.kp [106, 104, 102, 0] [(106, mone g5 (.cells [Value.pointer none, Value.pointer (some ⟨g3, 0, none⟩)].toArray 23 (0, 0))), (104, mone g3 (.cells [Value.pointer none, Value.bool false, Value.slice none (0) (0)].toArray 55 (0, 0))), (102, mone g1 (.cells [Value.int .i64 (d0.1), Value.int .i64 (d0.2.1), Value.slice p0_A2 (d0.2.2.length) (p0_c2)].toArray 32 (0, 0))), (0, wm W)] ?_
  refine VO.k6 0 1 2 4 5 6 ?_
  refine VC.block ?_
  refine VC.rounds 3 (VRounds.step ?_)
  refine VC.seq ?_
  refine VC.rs ?_
  refine VO.mv ?_
  refine VO.mv ?_
  refine VO.y rfl (.lenS rfl tsl56) ?_
  refine VO.y rfl (.lss rfl rfl) ?_
  refine VO.k7 0 1 2 4 5 6 20 ?_
  refine VC.cond rfl (fun hc7 => ?_) (fun hc7 => ?_)
  · -- RT
    refine VC.skip ?_
    refine outN ?_
    refine VC.seq ?_
    refine VC.block ?_
    refine VC.rs ?_
    refine VO.mv ?_
    refine VO.mv ?_
    refine VO.y rfl (.ixL (oo := 0) 0 rfl rfl tsl56 rfl (by decide) rfl) ?_
    refine VO.y rfl (.ld1 106 rfl tk23 rfl (cellsAt_one rfl rfl)) ?_
    refine VO.mv ?_
    refine VO.callN 109 rfl fnOk13 rfl (fun W hW => uGetN_ok_ W d1 bdm) (fun v9 m9 hv9 => ?_)
    subst hv9
    refine VO.mv ?_
    refine VO.y rfl (.ext rfl rfl) ?_
    refine VO.y rfl (.ext rfl rfl) ?_
    refine VO.y rfl (.ext rfl rfl) ?_
    refine VO.as ?_
    refine VO.as ?_
    refine VO.as ?_
    refine VO.k10 0 1 2 4 5 6 7 8 9 20 ?_
    refine VC.seq ?_
    refine VC.regD _ 28 [(0, true), (1, true), (2, true), (3, true), (4, true), (5, false), (6, true), (7, true), (8, true), (9, true), (10, true), (11, true), (12, true), (13, true), (14, true), (15, true), (16, true), (17, true), (18, true), (19, true), (20, true), (21, true), (22, false), (23, true), (24, true), (25, true), (26, true), (27, true)] follows (by kernel_rfl) (fun _ h => h.sub [109, 106, 104, 102, 0]) ?_
    refine VD.y rfl rfl (.inl rfl) (.mv rfl) ?_
    refine VD.y rfl rfl (.inl rfl) (.mv rfl) ?_
    refine VD.y rfl rfl (.inl rfl) (.ixL (oo := 0) 0 rfl rfl tsl56 rfl (by decide) rfl) ?_
    refine VD.y rfl rfl (.inl rfl) (.ld1 106 rfl tk23 rfl (cellsAt_one rfl rfl)) ?_
    refine VD.y rfl rfl (.inl rfl) (.ldA 102 rfl tk32 rfl (cellsAt_one rfl rfl)) ?_
    refine VD.callN 111 rfl rfl (.inl rfl) fnOk11 rfl (fun _ h => h.sub [109, 106, 104, 102, 0]) (fun W hW => uFlushN_ok_ W (Rd.mono h0 (hW.at (i := 0) rfl))) (fun v11 m11 hv11 => ?_)
    subst hv11
    refine VD.y rfl rfl (.inl rfl) (.neq rfl rfl) ?_
    refine VD.y rfl rfl (.inl rfl) (.mv rfl) ?_
    refine VD.dec (s := 40) rfl (fun hc12 => ?_) (fun hc12 => ?_)
    · -- RTT
      first | exact absurd hc12 (by decide) | exact absurd (by decide) hc12 | exact absurd rfl hc12
    · -- RTF
      refine VD.y rfl rfl (.inr ⟨_, _, rfl, _, rfl, rfl⟩) (.mv rfl) ?_
      refine VD.y rfl rfl (.inr ⟨_, _, rfl, _, rfl, rfl⟩) (.sneq rfl rfl) ?_
      refine VD.y rfl rfl (.inl rfl) (.pF rfl rfl) ?_
      refine VD.y rfl rfl (.inl rfl) (.mv rfl) ?_
      refine VD.dec (s := 44) rfl (fun hc13 => ?_) (fun hc13 => ?_)
      · -- RTFT
        first | exact absurd hc13 (by decide) | exact absurd (by decide) hc13 | exact absurd rfl hc13
      · -- RTFF
        refine VD.y rfl rfl (.inr ⟨_, _, rfl, _, rfl, rfl⟩) (.mv rfl) ?_
        refine VD.y rfl rfl (.inl rfl) (.pF rfl rfl) ?_
        refine VD.y rfl rfl (.inl rfl) (.mv rfl) ?_
        refine VD.decB (s := 47) rfl (fun hc14 => ?_) (fun hc14 => ?_)
        · -- RTFFT
          first | exact absurd hc14 (by decide) | exact absurd (by decide) hc14 | exact absurd rfl hc14
        · -- RTFFF
          refine VD.y rfl rfl (.inr ⟨_, _, rfl, _, rfl, rfl⟩) (.mv rfl) ?_
          refine VD.y rfl rfl (.inl rfl) (.pF rfl rfl) ?_
          refine VD.y rfl rfl (.inl rfl) (.mv rfl) ?_
          refine VD.known (t := 50) false rfl hc14 ?_
          refine VD.y rfl rfl (.inr ⟨_, _, rfl, _, rfl, rfl⟩) (.mv rfl) ?_
          refine VD.y rfl rfl (.inr ⟨_, _, rfl, _, rfl, rfl⟩) (.mv rfl) ?_
          refine VD.y rfl rfl (.inr ⟨_, _, rfl, _, rfl, rfl⟩) (.ixL (oo := 0) 0 rfl rfl tsl56 rfl (by decide) rfl) ?_
          refine VD.y rfl rfl (.inr ⟨_, _, rfl, _, rfl, rfl⟩) (.ld1 106 rfl tk23 rfl (cellsAt_one rfl rfl)) ?_
          refine VD.callN 116 rfl rfl (.inr ⟨_, _, rfl, _, rfl, rfl⟩) fnOk28 rfl (fun _ h => h.sub [109, 106, 104, 102, 0]) (fun W hW => uEndN_ok_ W ) (fun v16 m16 hv16 => ?_)
          subst hv16
          refine VD.y rfl rfl (.inr ⟨_, _, rfl, _, rfl, rfl⟩) (.neq rfl rfl) ?_
          refine VD.y rfl rfl (.inl rfl) (.pF rfl rfl) ?_
          refine VD.y rfl rfl (.inl rfl) (.mv rfl) ?_
          refine VD.dec (s := 58) rfl (fun hc17 => ?_) (fun hc17 => ?_)
          · -- RTFFFT
            first | exact absurd hc17 (by decide) | exact absurd (by decide) hc17 | exact absurd rfl hc17
          · -- RTFFFF
            refine VD.y rfl rfl (.inr ⟨_, _, rfl, _, rfl, rfl⟩) (.mv rfl) ?_
            refine VD.y rfl rfl (.inr ⟨_, _, rfl, _, rfl, rfl⟩) (.mv rfl) ?_
            refine VD.nil rfl ?_ rfl
            refine VO.gy rfl ⟨_, rfl, rfl⟩ (.ixL (oo := 0) 0 rfl rfl tsl56 rfl (by decide) rfl) ?_
            refine VO.gy rfl ⟨_, rfl, rfl⟩ (.ld1 106 rfl tk23 rfl (cellsAt_one rfl rfl)) ?_
            refine VO.gcallN 119 rfl ⟨_, rfl, rfl⟩ fnOk29 rfl (fun W hW => uListN_ok_ W ) (fun v19 m19 hv19 => ?_)
            obtain ⟨s19_0, rfl, f19_0⟩ := hv19
            obtain ⟨A19_0, c19_0, eq19_0, l19_0, k19_0⟩ := f19_0.slice
            subst eq19_0
            simp only [maxLen] at k19_0
            refine VO.gy rfl ⟨_, rfl, rfl⟩ (.lenS rfl tsl47) ?_
            refine VO.gy rfl ⟨_, rfl, rfl⟩ (.neq rfl rfl) ?_
            refine VO.y rfl (.pF rfl rfl) ?_
            refine VO.kp [106, 104, 102, 0] [(106, mone g5 (.cells [Value.pointer none, Value.pointer (some ⟨g3, 0, none⟩)].toArray 23 (0, 0))), (104, mone g3 (.cells [Value.pointer none, Value.bool false, Value.slice none (0) (0)].toArray 55 (0, 0))), (102, mone g1 (.cells [Value.int .i64 (d0.1), Value.int .i64 (d0.2.1), Value.slice p0_A2 (d0.2.2.length) (p0_c2)].toArray 32 (0, 0))), (0, wm W)] ?_
            refine VO.k11 0 1 2 4 5 6 7 8 9 20 66 ?_
            refine outN ?_
            refine VC.cond rfl (fun hc20 => ?_) (fun hc20 => ?_)
            · -- RTFFFFT
              first | exact absurd hc20 (by decide) | exact absurd (by decide) hc20 | exact absurd rfl hc20
            · -- RTFFFFF
              refine VC.skip ?_
              refine outBN ?_
              refine outN ?_
              refine VC.reg ?_
              refine VO.mv ?_
              refine VO.y rfl (.add (c := ((1 : Nat) : Int)) rfl rfl (by omega) ⟨bd, bd⟩) ?_
              refine VO.as ?_
              refine VO.k11 0 1 2 4 5 6 7 8 9 20 66 ?_
              refine outN (VRounds.step ?_)
              refine VC.seq ?_
              refine VC.rs ?_
              refine VO.mv ?_
              refine VO.mv ?_
              refine VO.y rfl (.lenS rfl tsl56) ?_
              refine VO.y rfl (.lss rfl rfl) ?_
              refine VO.k11 0 1 2 4 5 6 7 8 9 20 66 ?_
              refine VC.cond rfl (fun hc21 => ?_) (fun hc21 => ?_)
              · -- RTFFFFFRT
                refine VC.skip ?_
                refine outN ?_
                refine VC.seq ?_
                refine VC.block ?_
                refine VC.rs ?_
                refine VO.mv ?_
                refine VO.mv ?_
                refine VO.y rfl (.ixL (oo := 1) 1 rfl rfl tsl56 rfl (by decide) rfl) ?_
                refine VO.y rfl (.ld1 106 rfl tk23 rfl (cellsAt_one rfl rfl)) ?_
                refine VO.mv ?_
                refine VO.clsP 124 [104] rfl (fun hg24 => (mkP_runRuns0 none false [] (Seps.nilAt 1 hg24) (Ow.nil _ _))) (fun mc24 ho24 => ?_)
                refine VO.call 124 rfl fnOk13 rfl rfl (fun W hW => uGet0_ok_ W (hW.at (i := 124) rfl) ho24 d1 bdm) (fun v23 m23 hv23 => ?_)
                try dsimp only at hv23
                obtain ⟨rfl, w23_0⟩ := hv23
                refine VO.mv ?_
                refine VO.y rfl (.ext rfl rfl) ?_
                refine VO.y rfl (.ext rfl rfl) ?_
                refine VO.y rfl (.ext rfl rfl) ?_
                refine VO.as ?_
                refine VO.as ?_
                refine VO.as ?_
                refine VO.kp [124, 106, 102, 0] [(124, m23), (106, mone g5 (.cells [Value.pointer none, Value.pointer (some ⟨g3, 0, none⟩)].toArray 23 (0, 0))), (102, mone g1 (.cells [Value.int .i64 (d0.1), Value.int .i64 (d0.2.1), Value.slice p0_A2 (d0.2.2.length) (p0_c2)].toArray 32 (0, 0))), (0, wm W)] ?_
                refine VO.k11 0 1 2 4 5 6 7 8 9 20 66 ?_
                refine VC.seq ?_
                refine VC.regD _ 28 [(0, true), (1, true), (2, true), (3, true), (4, true), (5, false), (6, true), (7, true), (8, true), (9, true), (10, true), (11, true), (12, true), (13, true), (14, true), (15, true), (16, true), (17, true), (18, true), (19, true), (20, true), (21, true), (22, false), (23, true), (24, true), (25, true), (26, true), (27, true)] follows (by kernel_rfl) (fun _ h => h.sub [106, 102, 0]) ?_
                refine VD.y rfl rfl (.inl rfl) (.mv rfl) ?_
                refine VD.y rfl rfl (.inl rfl) (.mv rfl) ?_
                refine VD.y rfl rfl (.inl rfl) (.ixL (oo := 1) 1 rfl rfl tsl56 rfl (by decide) rfl) ?_
                refine VD.y rfl rfl (.inl rfl) (.ld1 106 rfl tk23 rfl (cellsAt_one rfl rfl)) ?_
                refine VD.y rfl rfl (.inl rfl) (.ldA 102 rfl tk32 rfl (cellsAt_one rfl rfl)) ?_
                refine VD.call 124 rfl rfl (.inl rfl) fnOk11 rfl rfl (fun _ _ h => h.sub [106, 102, 0]) (fun W hW => uFlush0_ok_ W (hW.at (i := 124) rfl) w23_0 (Rd.mono h0 (hW.out (i := 124) (j := 0) rfl rfl))) (fun v26 m26 hv26 => ?_)
                try dsimp only at hv26
                obtain ⟨rfl, w26_0⟩ := hv26
                refine VD.y rfl rfl (.inl rfl) (.neq rfl rfl) ?_
                refine VD.y rfl rfl (.inl rfl) (.mv rfl) ?_
                refine VD.known (t := 40) false rfl (decide_eq_false hc12) ?_
                refine VD.y rfl rfl (.inr ⟨_, _, rfl, _, rfl, rfl⟩) (.mv rfl) ?_
                refine VD.y rfl rfl (.inr ⟨_, _, rfl, _, rfl, rfl⟩) (.sneq rfl rfl) ?_
                refine VD.y rfl rfl (.inl rfl) (.pF rfl rfl) ?_
                refine VD.y rfl rfl (.inl rfl) (.mv rfl) ?_
                refine VD.known (t := 44) false rfl (decide_eq_false hc13) ?_
                refine VD.y rfl rfl (.inr ⟨_, _, rfl, _, rfl, rfl⟩) (.mv rfl) ?_
                refine VD.y rfl rfl (.inl rfl) (.pF rfl rfl) ?_
                refine VD.y rfl rfl (.inl rfl) (.mv rfl) ?_
                refine VD.known (t := 47) false rfl hc14 ?_
                refine VD.y rfl rfl (.inr ⟨_, _, rfl, _, rfl, rfl⟩) (.mv rfl) ?_
                refine VD.y rfl rfl (.inl rfl) (.pF rfl rfl) ?_
                refine VD.y rfl rfl (.inl rfl) (.mv rfl) ?_
                refine VD.known (t := 50) false rfl hc14 ?_
                refine VD.y rfl rfl (.inr ⟨_, _, rfl, _, rfl, rfl⟩) (.mv rfl) ?_
                refine VD.y rfl rfl (.inr ⟨_, _, rfl, _, rfl, rfl⟩) (.mv rfl) ?_
                refine VD.y rfl rfl (.inr ⟨_, _, rfl, _, rfl, rfl⟩) (.ixL (oo := 1) 1 rfl rfl tsl56 rfl (by decide) rfl) ?_
                refine VD.y rfl rfl (.inr ⟨_, _, rfl, _, rfl, rfl⟩) (.ld1 106 rfl tk23 rfl (cellsAt_one rfl rfl)) ?_
                refine VD.call 124 rfl rfl (.inr ⟨_, _, rfl, _, rfl, rfl⟩) fnOk28 rfl rfl (fun _ _ h => h.sub [106, 102, 0]) (fun W hW => uEnd0_ok_ W (hW.at (i := 124) rfl) w26_0) (fun v28 m28 hv28 => ?_)
                try dsimp only at hv28
                obtain ⟨rfl, w28_0⟩ := hv28
                refine VD.y rfl rfl (.inr ⟨_, _, rfl, _, rfl, rfl⟩) (.neq rfl rfl) ?_
                refine VD.y rfl rfl (.inl rfl) (.pF rfl rfl) ?_
                refine VD.y rfl rfl (.inl rfl) (.mv rfl) ?_
                refine VD.known (t := 58) false rfl (decide_eq_false hc17) ?_
                refine VD.y rfl rfl (.inr ⟨_, _, rfl, _, rfl, rfl⟩) (.mv rfl) ?_
                refine VD.y rfl rfl (.inr ⟨_, _, rfl, _, rfl, rfl⟩) (.mv rfl) ?_
                refine VD.nil rfl ?_ rfl
                refine VO.gy rfl ⟨_, rfl, rfl⟩ (.ixL (oo := 1) 1 rfl rfl tsl56 rfl (by decide) rfl) ?_
                refine VO.gy rfl ⟨_, rfl, rfl⟩ (.ld1 106 rfl tk23 rfl (cellsAt_one rfl rfl)) ?_
                refine VO.gcall 124 rfl ⟨_, rfl, rfl⟩ fnOk29 rfl rfl (fun W hW => uList0_ok_ W (hW.at (i := 124) rfl) w28_0) (fun v30 m30 hv30 => ?_)
                try dsimp only at hv30
                obtain ⟨s30_0, p30_0, p30_1, rfl, hS30, f30_0, w30_0⟩ := hv30
                refine VO.inv _ (fun _ h => h.parts (i := 124) rfl hS30 [131, 132]) ?_
                obtain ⟨A30_0, c30_0, eq30_0, l30_0, k30_0⟩ := f30_0.slice
                subst eq30_0
                simp only [maxLen] at k30_0
                refine VO.gy rfl ⟨_, rfl, rfl⟩ (.lenS rfl tsl47) ?_
                refine VO.gy rfl ⟨_, rfl, rfl⟩ (.neq rfl rfl) ?_
                refine VO.y rfl (.pF rfl rfl) ?_
                refine VO.k11 0 1 2 4 5 6 7 8 9 20 66 ?_
                refine outN ?_
                refine VC.condKF rfl (decide_eq_false hc20) ?_
                refine VC.skip ?_
                refine outBN ?_
                refine outN ?_
                refine VC.reg ?_
                refine VO.mv ?_
                refine VO.y rfl (.add (c := ((2 : Nat) : Int)) rfl rfl (by omega) ⟨bd, bd⟩) ?_
                refine VO.as ?_
                refine VO.k11 0 1 2 4 5 6 7 8 9 20 66 ?_
                refine outN (VRounds.step ?_)
                refine VC.seq ?_
                refine VC.rs ?_
                refine VO.mv ?_
                refine VO.mv ?_
                refine VO.y rfl (.lenS rfl tsl56) ?_
                refine VO.y rfl (.lss rfl rfl) ?_
                refine VO.kp [132, 106, 102, 0] [(132, p30_1), (106, mone g5 (.cells [Value.pointer none, Value.pointer (some ⟨g3, 0, none⟩)].toArray 23 (0, 0))), (102, mone g1 (.cells [Value.int .i64 (d0.1), Value.int .i64 (d0.2.1), Value.slice p0_A2 (d0.2.2.length) (p0_c2)].toArray 32 (0, 0))), (0, wm W)] ?_
                refine VO.k11 0 1 2 4 5 6 7 8 9 20 66 ?_
                refine VC.cond rfl (fun hc33 => ?_) (fun hc33 => ?_)
                · -- RTFFFFFRTRT
                  exact absurd hc33 (by decide)
                · -- RTFFFFFRTRF
                  refine VC.exit ?_
                  refine outE ?_
                  refine outE ?_
                  refine outBB ?_
                  refine outN ?_
                  refine VC.rs ?_
                  refine VO.callN 134 rfl fnOk9 rfl (fun W hW => uOpenNil_ok W ) (fun v34 m34 hv34 => ?_)
                  subst hv34
                  refine VO.mv ?_
                  refine VO.y rfl (.ext rfl rfl) ?_
                  refine VO.y rfl (.ext rfl rfl) ?_
                  refine VO.as ?_
                  refine VO.as ?_
                  refine VO.k13 0 1 2 4 5 6 7 8 9 10 11 20 66 ?_
                  refine VC.rs ?_
                  refine VO.y rfl (.bst (cs := [Value.bool false, Value.bool false, Value.bool false, Value.int .i64 (0), Value.int .i64 (0), Value.slice none (0) (0), Value.slice none (0) (0), Value.slice none (0) (0), Value.slice none (0) (0), Value.slice none (0) (0)]) rfl tst62 tz62 rfl) ?_
                  refine VO.box (cs := [Value.bool false, Value.bool false, Value.bool false, Value.int .i64 (0), Value.int .i64 (0), Value.slice none (0) (0), Value.slice none (0) (0), Value.slice none (0) (0), Value.slice none (0) (0), Value.slice none (0) (0)]) 136 rfl rfl rfl (fun g35 => ?_)
                  refine VO.clsP 137 [136] rfl (fun hg37 => (mkP_diskDisk false false false 0 0 [] [] [] [] [] (Seps.nilAt 5 (Seps.nilAt 4 (Seps.nilAt 3 (Seps.nilAt 2 (Seps.nilAt 1 hg37))))) bdk bdk (Ow.nil _ _) (Ow.nil _ _) (Ow.nil _ _) (Ow.nil _ _) (Ow.nil _ _))) (fun mc37 ho37 => ?_)
                  by_cases hsp38 : (uOpen (false, false, false, 0, 0, ([], [], [], []), [])).2 = 0
                  · -- RTFFFFFRTRFT
                    first | exact absurd hsp38 (by decide) | exact absurd (by decide) hsp38 | exact absurd rfl hsp38
                  · -- RTFFFFFRTRFF
                    refine VO.call 137 rfl fnOk9 rfl rfl (fun W hW => uOpenN_ok W (hW.at (i := 137) rfl) ho37 (by first | assumption | exact okD_zero) (by show wD zeroD + 200000 ≤ _; decide) (by assumption)) (fun v39 m39 hv39 => ?_)
                    try dsimp only at hv39
                    obtain ⟨rfl, w39_0⟩ := hv39
                    have hfa40 := (uopen_ok (show okD (false, false, false, 0, 0, ([], [], [], []), []) by assumption))
                    have hfa41 := (uopen_w (show okD (false, false, false, 0, 0, ([], [], [], []), []) by assumption))
                    refine VO.mv ?_
                    refine VO.y rfl (.ext rfl rfl) ?_
                    refine VO.y rfl (.ext rfl rfl) ?_
                    refine VO.as ?_
                    refine VO.as ?_
                    refine VO.k15 0 1 2 4 5 6 7 8 9 10 11 12 13 20 66 ?_
                    refine VC.rs ?_
                    refine VO.callN 142 rfl fnOk8 rfl (fun W hW => lives13_ok W ) (fun v42 m42 hv42 => ?_)
                    subst hv42
                    refine VO.mv ?_
                    refine VO.gy rfl ⟨_, rfl, rfl⟩ (.mv rfl) ?_
                    refine VO.gy rfl ⟨_, rfl, rfl⟩ (.pnil rfl rfl Try.underlying23 rfl) ?_
                    refine VO.y rfl (.pT rfl rfl) ?_
                    refine VO.mv ?_
                    refine VO.gy rfl ⟨_, rfl, rfl⟩ (.mv rfl) ?_
                    refine VO.gy rfl ⟨_, rfl, rfl⟩ (.eql rfl rfl) ?_
                    refine VO.y rfl (.pT rfl rfl) ?_
                    refine VO.mv ?_
                    refine VO.dec (t := 86) rfl (fun hc43 => ?_) (fun hc43 => ?_)
                    · -- RTFFFFFRTRFFT
                      refine VO.gy rfl ⟨_, rfl, rfl⟩ (.mv rfl) ?_
                      refine VO.gy rfl ⟨_, rfl, rfl⟩ (.pnil rfl rfl Try.underlying23 rfl) ?_
                      refine VO.y rfl (.pT rfl rfl) ?_
                      refine VO.mv ?_
                      refine VO.gy rfl ⟨_, rfl, rfl⟩ (.mv rfl) ?_
                      refine VO.gy rfl ⟨_, rfl, rfl⟩ (.eql rfl rfl) ?_
                      refine VO.y rfl (.pT rfl rfl) ?_
                      refine VO.as ?_
                      refine VO.kp [137, 132, 106, 102, 0] [(137, m39), (132, p30_1), (106, mone g5 (.cells [Value.pointer none, Value.pointer (some ⟨g3, 0, none⟩)].toArray 23 (0, 0))), (102, mone g1 (.cells [Value.int .i64 (d0.1), Value.int .i64 (d0.2.1), Value.slice p0_A2 (d0.2.2.length) (p0_c2)].toArray 32 (0, 0))), (0, wm W)] ?_
                      refine VO.k15 0 1 2 4 5 6 7 8 9 10 11 12 13 20 66 ?_
                      refine VC.ret ?_
                      refine ⟨_, _, res_run (rs := [.tmp 4]) rfl (.tmp rfl .nil), fun W_ hI => out_of (l := []) hI [] rfl rfl (mle_refl _) (fun hS_ => ?_)⟩
                      dsimp only [packV]
                      all_goals (first | rfl | (simp [*]; done))
                    · -- RTFFFFFRTRFFF
                      first | exact absurd hc43 (by decide) | exact absurd (by decide) hc43 | exact absurd rfl hc43
              · -- RTFFFFFRF
                first | exact absurd hc21 (by decide) | exact absurd (by decide) hc21 | exact absurd rfl hc21
  · -- RF
    first | exact absurd hc7 (by decide) | exact absurd (by decide) hc7 | exact absurd rfl hc7
section
open Go.ChangeShapes Go.WideShapes Go.ChangeAt Go.RowKit
theorem runNil_ok0 : tyOk Try.prog 60 TRun (.inl 32) = true := by kernel_rfl
set_option maxRecDepth 100000 in
theorem runNil_lifted (os : Os) (started : os.Started) (H : Type) (enc : TypeId × Value → H) :
    ReturnsInHanded {} Try.checked os 5 .any (Rows.runNilSpec.pre6 enc Try.prog Try.f5 Rows.runNilRow.domain false) (Rows.runNilSpec.post enc Try.prog Try.f5 false true false false) := by
  refine returnsInHanded_of_change (C := Try.checked) (by kernel_rfl) started (by kernel_rfl) Try.func5
    (ChangeSpec.witness6 (enc := enc) (C := Try.checked) false ⟨#[], #[.agg #[.int .i64 0, .int .i64 0, .slice none 0 0], .string ⟨#[]⟩], []⟩ 8 (by kernel_rfl) (by kernel_rfl) (by kernel_rfl) (by kernel_rfl)) ?_
  intro W base args ds gs before hval0 hW hcnd _
  have hval : ∀ (j : Nat) t v, Try.f5.params[j]? = some t → args[j]? = some v → Value.okWide Try.prog W .any base t v := hval0
  have hW' := hW
  obtain ⟨p, q, hA0, hV, rfl, hfz, hnd⟩ := hW
  have hA : DataW.TrodAll enc Try.prog W 0 (fun _ => true) true Try.f5.params.toList args.toList ds p := hA0
  rw [Try.params5] at hA hval
  clear hA0 hval0
  obtain ⟨args⟩ := args
  obtain ⟨v0, r0, d0, e0, p0, q0, ha0, rfl, rfl, h0, hA0⟩ := trodAll_cons hA
  simp only at ha0; subst ha0
  obtain ⟨v1, r1, d1, e1, p1, q1, ha1, rfl, rfl, h1, hA1⟩ := trodAll_cons hA0
  subst ha1
  obtain ⟨rfl, rfl, rfl⟩ := trodAll_nil hA1
  obtain ⟨c0, x0, rfl, hx0⟩ := arg_st 60 runNil_ok0 Try.underlying32 (hval 0 32 v0 rfl rfl) h0
  obtain ⟨x1, rfl, hx1⟩ := arg_str Try.underlying9 (hval 1 9 v1 rfl rfl) h1
  refine (calls_of (runNil_ok W hx0 x1 hx1)).mono fun e W' ⟨he, hg⟩ => ?_
  subst he
  exact ⟨_, rfl, law_post hW' hg laidOut_ok (by kernel_rfl) rfl Try.underlying4 rfl rfl rfl rfl⟩
theorem runNil_joined : joinedFacts Try.prog 5 Try.f5 Rows.runNilSpec Rows.runNilRow = true := by
  unfold joinedFacts
  rw [laidOut_ok, mapsRowed_ok, stopsHeard_ok, mayEnter_ok, lifts_ok, make_ok]
  kernel_rfl
theorem runNil_proved : Rows.RunNilSaid :=
  OpenClaim.holds_of_wide 5 Try.f5 rfl rfl rfl rfl rfl rfl rfl ⟨rfl, rfl, rfl, rfl, rfl⟩ rfl rfl rfl rfl rfl (by kernel_rfl) Try.func5 runNil_joined
    (of_decide_eq_true (by kernel_rfl)) (by unfold Func.isWrapper; first | (rw [if_pos (by decide +kernel)]; kernel_rfl) | (rw [if_neg (by decide +kernel)]; exact ⟨rfl, rfl⟩))
    (fun os started H enc _ => runNil_lifted os started H enc)
#print axioms runNil_proved
end
end Go.Proofs.Ytgmdjhdgaddigaa
