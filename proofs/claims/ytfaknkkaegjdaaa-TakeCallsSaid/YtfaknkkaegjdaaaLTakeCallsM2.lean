/- Part 2 of the proof of LTakeCalls: what it needs of the library, the walks and the plain laws. Conditions: those named in each theorem. -/
import Derived.Test.YtfaknkkaegjdaaaLTakeCallsM1
namespace Go.Proofs.Ytfaknkkaegjdaaa
section
set_option linter.unusedVariables false
set_option linter.unusedSimpArgs false
set_option maxRecDepth 4000
theorem fnOk29 : fnOk Try.prog 29 = true := by kernel_rfl
theorem fnOk38 : fnOk Try.prog 38 = true := by kernel_rfl
theorem fnOk96 : fnOk Try.prog 96 = true := by kernel_rfl
theorem teq49 (a0 : Bool) (a1 : List UInt8) (a2 : List UInt8) : plainS Try.prog 49 [.bool a0, str a1, str a2] = true := by kernel_rfl
theorem tk4 : tk Try.prog 4 = some none := by kernel_rfl
theorem tk49 : tk Try.prog 49 = some (some 3) := by kernel_rfl
theorem tk9 : tk Try.prog 9 = some none := by kernel_rfl
theorem tsl22 : tsl Try.prog 22 = some (49, 3, 40) := by kernel_rfl
theorem tst49 : tst Try.prog 49 = some [(0, 1), (1, 1), (2, 1)] := by kernel_rfl
theorem tz49 : tz Try.prog 49 = some [.bool false, .string ⟨#[]⟩, .string ⟨#[]⟩] := by kernel_rfl
theorem follows : Try.prog.follows .mixedOrders = true := by kernel_rfl
theorem SameOps_ok (W : World) {v0 : Value} {d0 : List DOp} (h0 : Rd (.sl TOp) (wm W) [v0] d0) {v1 : Value} {d1 : List DOp} (h1 : Rd (.sl TOp) (wm W) [v1] d1) : CallR Try.prog 38 [v0, v1] W (mnil) (fun v m' => v = .bool (decide (d0 = d1))) := by
  obtain ⟨A0, c0, rfl, l0, k0⟩ := h0.slice
  simp only [maxLen] at k0
  obtain ⟨A1, c1, rfl, l1, k1⟩ := h1.slice
  simp only [maxLen] at k1
  refine CallR.ofA (n := 26) Try.func38 rfl rfl rfl ?_
  refine VC.rs ?_
  refine VO.as ?_
  refine VO.k3 0 1 4 ?_
  refine VC.seq ?_
  refine VC.rs ?_
  refine VO.mv ?_
  refine VO.y rfl (.lenS rfl tsl22) ?_
  refine VO.mv ?_
  refine VO.y rfl (.lenS rfl tsl22) ?_
  refine VO.y rfl (.neq rfl rfl) ?_
  refine VO.k4 0 1 4 10 ?_
  refine VC.cond rfl (fun hc1 => ?_) (fun hc1 => ?_)
  · -- T
    refine VC.rs ?_
    refine VO.as ?_
    refine VO.kp [0] [(0, wm W)] ?_
    refine VO.k4 0 1 4 10 ?_
    refine VC.ret ?_
    refine outR ?_
    refine ⟨_, _, res_run (rs := [.tmp 4]) rfl (.tmp rfl .nil), fun W_ hI => out_of (l := []) hI [] rfl rfl (mle_refl _) (fun hS_ => ?_)⟩
    dsimp only [packV]
    all_goals (first | rfl | (simp [len_ne hc1]))
  · -- F
    refine VC.skip ?_
    refine outN ?_
    refine VC.seq ?_
    refine VC.rs ?_
    refine VO.as ?_
    refine VO.kp [0] [(0, wm W)] ?_
    refine VO.k5 0 1 4 5 10 ?_
    refine VC.block ?_
    refine VC.loop (G := Nat) (fun k => [(5, Value.int .i64 (((k : Nat) : Int))), (0, Value.slice A0 (d0.length) (c0)), (1, Value.slice A1 (d1.length) (c1)), (10, Value.bool (decide (¬ ((d0.length : Nat) : Int) = ((d1.length : Nat) : Int))))]) (fun k => [(0, wm W)]) (fun k => (k ≤ d0.length) ∧ (d0.take k = d1.take k)) (fun k => d0.length - k) 0 (⟨by omega, by rfl⟩) ⟨⟨rfl, rfl, rfl, rfl, trivial⟩, fun _ h => h.sub [0]⟩ ?_
    rintro k ⟨hk, ht⟩
    refine VC.seq ?_
    refine VC.rs ?_
    refine VO.mv ?_
    refine VO.mv ?_
    refine VO.y rfl (.lenS rfl tsl22) ?_
    refine VO.y rfl (.lss rfl rfl) ?_
    refine VO.k5 0 1 5 10 14 ?_
    refine VC.cond rfl (fun hc2 => ?_) (fun hc2 => ?_)
    · -- FT
      refine VC.skip ?_
      refine outN ?_
      refine VC.seq ?_
      refine VC.block ?_
      refine VC.seq ?_
      refine VC.regD _ 8 [(0, true), (1, true), (2, true), (3, true), (4, true), (5, true), (6, true), (7, true)] follows (by kernel_rfl) (fun _ h => h.sub [0]) ?_
      refine VD.y rfl rfl (.inl rfl) (.mv rfl) ?_
      refine VD.y rfl rfl (.inl rfl) (.mv rfl) ?_
      obtain ⟨x3, hx3⟩ : ∃ z_, (d0)[k]? = some z_ := ⟨_, List.getElem?_eq_getElem bd⟩
      obtain ⟨gg3, oo3, ec3, ea3, hce3, hre3⟩ := h0.elem hx3
      cases ea3
      obtain ⟨rfl, q3_1, q3_2⟩ := open_Op (x0 := x3.1) (x1 := x3.2.1) (x2 := x3.2.2) hre3
      simp only [maxLen] at q3_1
      simp only [maxLen] at q3_2
      refine VD.y rfl rfl (.inl rfl) (.ixI k rfl rfl tsl22 rfl bd) ?_
      refine VD.y rfl rfl (.inl rfl) (.ldA 0 rfl tk49 rfl hce3) ?_
      refine VD.y rfl rfl (.inl rfl) (.mv rfl) ?_
      refine VD.y rfl rfl (.inl rfl) (.mv rfl) ?_
      obtain ⟨x4, hx4⟩ : ∃ z_, (d1)[k]? = some z_ := ⟨_, List.getElem?_eq_getElem bd⟩
      obtain ⟨gg4, oo4, ec4, ea4, hce4, hre4⟩ := h1.elem hx4
      cases ea4
      obtain ⟨rfl, q4_1, q4_2⟩ := open_Op (x0 := x4.1) (x1 := x4.2.1) (x2 := x4.2.2) hre4
      simp only [maxLen] at q4_1
      simp only [maxLen] at q4_2
      refine VD.y rfl rfl (.inl rfl) (.ixI k rfl rfl tsl22 rfl bd) ?_
      refine VD.y rfl rfl (.inl rfl) (.ldA 0 rfl tk49 rfl hce4) ?_
      refine VD.nil rfl ?_ rfl
      refine VO.y rfl (.stneq (p := x3.1 = x4.1 ∧ x3.2.1 = x4.2.1 ∧ x3.2.2 = x4.2.2) rfl rfl (teq49 x3.1 x3.2.1 x3.2.2) (teq49 x4.1 x4.2.1 x4.2.2) (by simp [ceq, ba_toList])) ?_
      refine VO.k6 0 1 5 10 14 25 ?_
      refine outN ?_
      refine VC.cond rfl (fun hc5 => ?_) (fun hc5 => ?_)
      · -- FTT
        refine VC.rs ?_
        refine VO.as ?_
        refine VO.kp [0] [(0, wm W)] ?_
        refine VO.k7 0 1 4 5 10 14 25 ?_
        refine VC.ret ?_
        refine outBR ?_
        refine outR ?_
        refine outR ?_
        refine outBR ?_
        refine outR ?_
        refine ⟨_, _, res_run (rs := [.tmp 4]) rfl (.tmp rfl .nil), fun W_ hI => out_of (l := []) hI [] rfl rfl (mle_refl _) (fun hS_ => ?_)⟩
        dsimp only [packV]
        all_goals (first | rfl | (simp [get_ne ‹d0[k]? = some _› ‹d1[k]? = some _› (op_ne ‹_›)]))
      · -- FTF
        refine VC.skip ?_
        refine outBN ?_
        refine outN ?_
        refine VC.reg ?_
        refine VO.mv ?_
        refine VO.y rfl (.add (c := ((k + 1 : Nat) : Int)) rfl rfl (by omega) ⟨bd, bd⟩) ?_
        refine VO.as ?_
        refine VO.kp [0] [(0, wm W)] ?_
        refine VO.k6 0 1 5 10 14 25 ?_
        exact outN ⟨k + 1, ⟨by omega, by exact take_next ht ‹d0[k]? = some _› ‹d1[k]? = some _› (op_eq (by simpa using ‹¬ ¬ _›))⟩, bd, ⟨⟨rfl, rfl, rfl, rfl, trivial⟩, fun _ h => Inv.sub h [0]⟩⟩
    · -- FF
      refine VC.exit ?_
      refine outE ?_
      refine outE ?_
      refine outBB ?_
      refine outN ?_
      refine VC.rs ?_
      refine VO.as ?_
      refine VO.k6 0 1 4 5 10 14 ?_
      refine VC.ret ?_
      refine ⟨_, _, res_run (rs := [.tmp 4]) rfl (.tmp rfl .nil), fun W_ hI => out_of (l := []) hI [] rfl rfl (mle_refl _) (fun hS_ => ?_)⟩
      dsimp only [packV]
      all_goals (first | rfl | (simp [take_all ht (by omega) (by omega)]))
theorem CopyOps_ok (W : World) {v0 : Value} {d0 : List DOp} (h0 : Rd (.sl TOp) (wm W) [v0] d0) (e0 : d0.length ≤ 3518437208800) : CallR Try.prog 96 [v0] W (mnil) (fun v m' => ∃ (s0 : Value), v = s0 ∧ Ow (.sl TOp) m' [s0] (d0)) := by
  obtain ⟨A0, c0, rfl, l0, k0⟩ := h0.slice
  simp only [maxLen] at k0
  refine CallR.ofA (n := 6) Try.func96 rfl rfl rfl ?_
  refine VC.rs ?_
  refine VO.as ?_
  refine VO.k2 0 2 ?_
  refine VC.rs ?_
  refine VO.bsl (cs := []) 102 rfl rfl tsl22 tz49 rfl rfl (fun g1 => ?_)
  refine VO.mv ?_
  have ho4 : OwnL TOp (mone g1 (.cells [].toArray 49 (0, 0))) mnil (Value.slice (some ⟨g1, 0, none⟩) (0) (0)) [] := OwnL.lit 0 All2c.nil rfl rfl
  obtain ⟨mo3, cs3, hM3, hA3, hC3⟩ := ho4
  obtain ⟨all3, hS3, hR3⟩ := Rd.srcI (P := Try.prog) (h0) Try.underlying22
  refine VO.app 102 rfl rfl rfl tsl22 tz49 rfl rfl hM3 hA3 (hS3 _ 0 rfl) hR3.nice bdm bd (by decide) (fun v3 m3 hN3 => ?_)
  have ho3 : OwnL TOp m3 mnil v3 (d0) := OwnL.more hC3 hN3 (All2c.mono hR3 fun _ _ h => Rd.flat rfl h _)
  obtain ⟨A3, c3, rfl, l3, k3⟩ := ho3.slice
  simp only [maxLen] at k3
  refine VO.as ?_
  refine VO.k2 0 2 ?_
  refine VC.ret ?_
  refine ⟨_, _, res_run (rs := [.tmp 2]) rfl (.tmp rfl .nil), fun W_ hI => out_of (l := [m3]) hI [102] rfl rfl (mle_refl _) (fun hS_ => ?_)⟩
  dsimp only [packV]
  have he0 : (d0 : Ty.Den (.sl TOp)) = d0 := by first | rfl | (simp [*]; done)
  refine ⟨Value.slice A3 ((d0).length) (c3), ?_, ?_⟩
  rotate_left
  · rw [he0]; exact (Ow.up (OwnL.ow ho3 rfl) (hS_.1 _ (.head _)))
  all_goals (first | rfl | (simp [*]; done))
theorem LentOps_ok (W : World) {v0 : Value} {d0 : List DOp} (h0 : Rd (.sl TOp) (wm W) [v0] d0) (e0 : d0.length ≤ 3518437208800) : CallR Try.prog 29 [v0] W (mnil) (fun v m' => ∃ (s0 : Value), v = s0 ∧ Ow (.sl TOp) m' [s0] (d0 ++ spareO)) := by
  obtain ⟨A0, c0, rfl, l0, k0⟩ := h0.slice
  simp only [maxLen] at k0
  refine CallR.ofA (n := 16) Try.func29 rfl rfl rfl ?_
  refine VC.rs ?_
  refine VO.as ?_
  refine VO.k2 0 2 ?_
  refine VC.rs ?_
  refine VO.mv ?_
  refine VO.callN 101 rfl fnOk96 rfl (fun W hW => CopyOps_ok W (Rd.mono h0 (hW.at (i := 0) rfl)) bd) (fun v1 m1 hv1 => ?_)
  obtain ⟨s1_0, rfl, f1_0⟩ := hv1
  obtain ⟨A1_0, c1_0, eq1_0, l1_0, k1_0⟩ := f1_0.slice
  subst eq1_0
  simp only [maxLen] at k1_0
  refine VO.as ?_
  refine VO.k3 0 2 3 ?_
  refine VC.seq ?_
  refine VC.rs ?_
  refine VO.as ?_
  refine VO.kp [101, 0] [(101, m1), (0, wm W)] ?_
  refine VO.k4 0 2 3 4 ?_
  refine VC.block ?_
  refine VC.loop (G := Nat × (List DOp) × (Option Addr) × Nat × Mem) (fun g => [(3, Value.slice (g.2.2.1) ((g.2.1).length) ((g.2.2.2.1))), (4, Value.int .i64 ((((g.1) : Nat) : Int))), (0, Value.slice A0 (d0.length) (c0)), (2, Value.slice none (0) (0))]) (fun g => [(101, (g.2.2.2.2)), (0, wm W)]) (fun g => ((g.1) ≤ 3) ∧ ((g.2.1) = d0 ++ spareO.take (g.1)) ∧ (OwnL TOp (g.2.2.2.2) mnil (.slice (g.2.2.1) (g.2.1).length (g.2.2.2.1)) (g.2.1))) (fun g => 3 - (g.1)) (0, d0, A1_0, c1_0, m1) (⟨by omega, by simp, (Ow.ownl f1_0 rfl mnil)⟩) ⟨⟨rfl, rfl, rfl, rfl, trivial⟩, fun _ h => h.sub [101, 0]⟩ ?_
  rintro ⟨k, out, out_A, out_c, out_m⟩ ⟨hk, ho, h_out⟩
  replace hk : k ≤ 3 := hk
  replace ho : out = d0 ++ spareO.take k := ho
  replace h_out : OwnL TOp out_m mnil (.slice out_A out.length out_c) out := h_out
  show VC _ _ _ _ _ [(3, Value.slice out_A (out.length) (out_c)), (4, Value.int .i64 (((k : Nat) : Int))), (0, Value.slice A0 (d0.length) (c0)), (2, Value.slice none (0) (0))] [(101, out_m), (0, wm W)]
  have l_out : out.length ≤ out_c := by obtain ⟨_, _, he, hl, _⟩ := h_out.slice; simp only [Value.slice.injEq] at he; omega
  have k_out : out_c ≤ 9223372036854775807 := by obtain ⟨_, _, he, _, hl⟩ := h_out.slice; simp only [Value.slice.injEq, maxLen] at he hl; omega
  have hlo : out.length ≤ d0.length + 3 := by rw [ho]; simp [spareO]; omega
  refine VC.seq ?_
  refine VC.rs ?_
  refine VO.mv ?_
  refine VO.y rfl (.lss rfl rfl) ?_
  refine VO.k5 0 2 3 4 8 ?_
  refine VC.cond rfl (fun hc2 => ?_) (fun hc2 => ?_)
  · -- T
    refine VC.skip ?_
    refine outN ?_
    refine VC.seq ?_
    refine VC.block ?_
    refine VC.reg ?_
    refine VO.mv ?_
    refine VO.y rfl (.bst (cs := [Value.bool true, str ([98, 101, 104, 105, 110, 100]), str ([])]) rfl tst49 tz49 rfl) ?_
    refine VO.bsl (cs := [Value.bool true, str ([98, 101, 104, 105, 110, 100]), str ([])]) 104 rfl rfl tsl22 tz49 rfl rfl (fun g3 => ?_)
    obtain ⟨mo5, cs5, hM5, hA5, hC5⟩ := h_out
    refine VO.app 101 rfl rfl rfl tsl22 tz49 rfl rfl hM5 hA5 (.row 104 _ _ _ 1 1 _ _ Try.underlying22 rfl (cellsAt_one rfl rfl)) (by simp [Value.oneCell']) bdm bd (by decide) (fun v5 m5 hN5 => ?_)
    have ho5 : OwnL TOp m5 mnil v5 (out ++ [(true, [98, 101, 104, 105, 110, 100], [])]) := OwnL.one hC5 hN5 (mk_Op (m := _) true ([98, 101, 104, 105, 110, 100]) [] bdm bdm)
    obtain ⟨A5, c5, rfl, l5, k5⟩ := ho5.slice
    simp only [maxLen] at k5
    refine VO.as ?_
    refine VO.k5 0 2 3 4 8 ?_
    refine outBN ?_
    refine outN ?_
    refine VC.reg ?_
    refine VO.mv ?_
    refine VO.y rfl (.add (c := ((k + 1 : Nat) : Int)) rfl rfl (by omega) ⟨bd, bd⟩) ?_
    refine VO.as ?_
    refine VO.kp [101, 0] [(101, m5), (0, wm W)] ?_
    refine VO.k5 0 2 3 4 8 ?_
    exact outN ⟨⟨k + 1, out ++ [(true, [98, 101, 104, 105, 110, 100], [])], A5, c5, m5⟩, ⟨by omega, by exact spareO_next ho (by omega), ho5⟩, bd, ⟨⟨rfl, rfl, rfl, rfl, trivial⟩, fun _ h => Inv.sub h [101, 0]⟩⟩
  · -- F
    refine VC.exit ?_
    refine outE ?_
    refine outE ?_
    refine outBB ?_
    refine outN ?_
    refine VC.rs ?_
    refine VO.mv ?_
    refine VO.as ?_
    refine VO.k5 0 2 3 4 8 ?_
    refine VC.ret ?_
    refine ⟨_, _, res_run (rs := [.tmp 2]) rfl (.tmp rfl .nil), fun W_ hI => out_of (l := [out_m]) hI [101] rfl rfl (mle_refl _) (fun hS_ => ?_)⟩
    dsimp only [packV]
    have he0 : (d0 ++ spareO : Ty.Den (.sl TOp)) = out := by first | rfl | (have : k = 3 := (by omega); subst this; exact ho.symm)
    refine ⟨Value.slice out_A (out.length) (out_c), ?_, ?_⟩
    rotate_left
    · rw [he0]; exact (Ow.up (OwnL.ow h_out rfl) (hS_.1 _ (.head _)))
    all_goals (first | rfl | (simp [*]; done))
theorem KeptOps_ok (W : World) {v0 : Value} {d0 : List DOp} (h0 : Rd (.sl TOp) (wm W) [v0] d0) {v1 : Value} {d1 : List DOp} (h1 : Rd (.sl TOp) (wm W) [v1] d1) (e0 : d1.length ≤ 3518437208800) : CallR Try.prog 35 [v0, v1] W (mnil) (fun v m' => v = .bool (decide (d0 = d1 ++ spareO))) := by
  obtain ⟨A0, c0, rfl, l0, k0⟩ := h0.slice
  simp only [maxLen] at k0
  obtain ⟨A1, c1, rfl, l1, k1⟩ := h1.slice
  simp only [maxLen] at k1
  refine CallR.ofA (n := 9) Try.func35 rfl rfl rfl ?_
  refine VC.rs ?_
  refine VO.as ?_
  refine VO.k3 0 1 4 ?_
  refine VC.rs ?_
  refine VO.mv ?_
  refine VO.mv ?_
  refine VO.callN 101 rfl fnOk29 rfl (fun W hW => LentOps_ok W (Rd.mono h1 (hW.at (i := 0) rfl)) bd) (fun v1 m1 hv1 => ?_)
  obtain ⟨s1_0, rfl, f1_0⟩ := hv1
  obtain ⟨A1_0, c1_0, eq1_0, l1_0, k1_0⟩ := f1_0.slice
  subst eq1_0
  simp only [maxLen] at k1_0
  refine VO.callN 102 rfl fnOk38 rfl (fun W hW => SameOps_ok W (Rd.mono h0 (hW.at (i := 0) rfl)) (OwnL.rd (Ow.ownl f1_0 rfl mnil) (hW.at (i := 101) rfl) (mle_nil _))) (fun v2 m2 hv2 => ?_)
  subst hv2
  refine VO.as ?_
  refine VO.k3 0 1 4 ?_
  refine VC.ret ?_
  refine ⟨_, _, res_run (rs := [.tmp 4]) rfl (.tmp rfl .nil), fun W_ hI => out_of (l := []) hI [] rfl rfl (mle_refl _) (fun hS_ => ?_)⟩
  dsimp only [packV]
  all_goals (first | rfl | (rfl))
theorem fin0_opCheck_ok {P : Prop} (h : P := by congr 1; first | exact (opCheck_bad (fun h => by have := h.1; have := h.2.1; have := h.2.2.1; omega)).symm | exact (opCheck_bad (fun h => by rcases h.2.2.2 with e | e <;> first | exact absurd e ‹¬ _ = _› | simp [e] at *)).symm | exact (opCheck_good ⟨by omega, by omega, by omega, by first | exact .inl ‹d0.1 = true› | exact .inr (by simpa using ‹¬ ¬ _›)⟩).symm) : P := h
theorem opCheck_ok (W : World) {v0 : List Value} {d0 : DOp} (h0 : Rd TOp (wm W) v0 d0) : CallR Try.prog 95 [.agg v0.toArray] W (mnil) (fun v m' => v = .int .i64 (opCheck d0)) := by
  obtain ⟨rfl, p0_1, p0_2⟩ := open_Op (x0 := d0.1) (x1 := d0.2.1) (x2 := d0.2.2) h0
  simp only [maxLen] at p0_1
  simp only [maxLen] at p0_2
  refine CallR.ofA (n := 29) Try.func95 rfl rfl rfl ?_
  refine VC.rs ?_
  refine VO.box (cs := [Value.bool d0.1, str (d0.2.1), str (d0.2.2)]) 102 rfl rfl rfl (fun g1 => ?_)
  refine VO.as ?_
  refine VO.k3 0 1 2 ?_
  refine VC.seq ?_
  refine VC.rs ?_
  refine VO.y rfl (.fa rfl tst49 rfl) ?_
  refine VO.y rfl (.ld1 102 rfl tk9 rfl (cellsAt_one rfl rfl)) ?_
  refine VO.y rfl (.lenT rfl Try.underlying9) ?_
  refine VO.y rfl (.lss rfl rfl) ?_
  refine VO.mv ?_
  refine VO.dec (t := 7) rfl (fun hc3 => ?_) (fun hc3 => ?_)
  · -- T
    refine VO.gN ?_
    refine VO.gN ?_
    refine VO.gN ?_
    refine VO.gN ?_
    refine VO.y rfl (.pT rfl rfl) ?_
    refine VO.mv ?_
    refine VO.gN ?_
    refine VO.gN ?_
    refine VO.gN ?_
    refine VO.gN ?_
    refine VO.y rfl (.pT rfl rfl) ?_
    refine VO.mv ?_
    refine VO.gN ?_
    refine VO.gN ?_
    refine VO.gN ?_
    refine VO.gN ?_
    refine VO.gn rfl (.inr ⟨_, rfl, rfl⟩) ?_
    refine VO.gn rfl (.inr ⟨_, rfl, rfl⟩) ?_
    refine VO.gn rfl (.inr ⟨_, rfl, rfl⟩) ?_
    refine VO.gN ?_
    refine VO.y rfl (.pT rfl rfl) ?_
    refine VO.k4 0 1 2 28 ?_
    refine VC.condT rfl ?_
    refine VC.rs ?_
    refine VO.as ?_
    refine VO.kp [102, 0] [(102, mone g1 (.cells [Value.bool d0.1, str (d0.2.1), str (d0.2.2)].toArray 49 (0, 0))), (0, wm W)] ?_
    refine VO.k4 0 1 2 28 ?_
    refine VC.ret ?_
    refine outR ?_
    refine ⟨_, _, res_run (rs := [.tmp 2]) rfl (.tmp rfl .nil), fun W_ hI => out_of (l := []) hI [] rfl rfl (mle_refl _) (fun hS_ => ?_)⟩
    dsimp only [packV]
    all_goals (first | rfl | (exact fin0_opCheck_ok))
  · -- F
    refine VO.gy rfl ⟨_, rfl, rfl⟩ (.fa rfl tst49 rfl) ?_
    refine VO.gy rfl ⟨_, rfl, rfl⟩ (.ld1 102 rfl tk9 rfl (cellsAt_one rfl rfl)) ?_
    refine VO.gy rfl ⟨_, rfl, rfl⟩ (.lenT rfl Try.underlying9) ?_
    refine VO.gy rfl ⟨_, rfl, rfl⟩ (.gtr rfl rfl) ?_
    refine VO.y rfl (.pF rfl rfl) ?_
    refine VO.mv ?_
    refine VO.dec (t := 13) rfl (fun hc4 => ?_) (fun hc4 => ?_)
    · -- FT
      refine VO.gN ?_
      refine VO.gN ?_
      refine VO.gN ?_
      refine VO.gN ?_
      refine VO.y rfl (.pT rfl rfl) ?_
      refine VO.mv ?_
      refine VO.gN ?_
      refine VO.gN ?_
      refine VO.gN ?_
      refine VO.gN ?_
      refine VO.gn rfl (.inr ⟨_, rfl, rfl⟩) ?_
      refine VO.gn rfl (.inr ⟨_, rfl, rfl⟩) ?_
      refine VO.gn rfl (.inr ⟨_, rfl, rfl⟩) ?_
      refine VO.gN ?_
      refine VO.y rfl (.pT rfl rfl) ?_
      refine VO.k4 0 1 2 28 ?_
      refine VC.condT rfl ?_
      refine VC.rs ?_
      refine VO.as ?_
      refine VO.kp [102, 0] [(102, mone g1 (.cells [Value.bool d0.1, str (d0.2.1), str (d0.2.2)].toArray 49 (0, 0))), (0, wm W)] ?_
      refine VO.k4 0 1 2 28 ?_
      refine VC.ret ?_
      refine outR ?_
      refine ⟨_, _, res_run (rs := [.tmp 2]) rfl (.tmp rfl .nil), fun W_ hI => out_of (l := []) hI [] rfl rfl (mle_refl _) (fun hS_ => ?_)⟩
      dsimp only [packV]
      all_goals (first | rfl | (exact fin0_opCheck_ok))
    · -- FF
      refine VO.gy rfl ⟨_, rfl, rfl⟩ (.fa rfl tst49 rfl) ?_
      refine VO.gy rfl ⟨_, rfl, rfl⟩ (.ld1 102 rfl tk9 rfl (cellsAt_one rfl rfl)) ?_
      refine VO.gy rfl ⟨_, rfl, rfl⟩ (.lenT rfl Try.underlying9) ?_
      refine VO.gy rfl ⟨_, rfl, rfl⟩ (.gtr rfl rfl) ?_
      refine VO.y rfl (.pF rfl rfl) ?_
      refine VO.mv ?_
      refine VO.dec (t := 19) rfl (fun hc5 => ?_) (fun hc5 => ?_)
      · -- FFT
        refine VO.gN ?_
        refine VO.gN ?_
        refine VO.gN ?_
        refine VO.gN ?_
        refine VO.gn rfl (.inr ⟨_, rfl, rfl⟩) ?_
        refine VO.gn rfl (.inr ⟨_, rfl, rfl⟩) ?_
        refine VO.gn rfl (.inr ⟨_, rfl, rfl⟩) ?_
        refine VO.gN ?_
        refine VO.y rfl (.pT rfl rfl) ?_
        refine VO.k4 0 1 2 28 ?_
        refine VC.condT rfl ?_
        refine VC.rs ?_
        refine VO.as ?_
        refine VO.kp [102, 0] [(102, mone g1 (.cells [Value.bool d0.1, str (d0.2.1), str (d0.2.2)].toArray 49 (0, 0))), (0, wm W)] ?_
        refine VO.k4 0 1 2 28 ?_
        refine VC.ret ?_
        refine outR ?_
        refine ⟨_, _, res_run (rs := [.tmp 2]) rfl (.tmp rfl .nil), fun W_ hI => out_of (l := []) hI [] rfl rfl (mle_refl _) (fun hS_ => ?_)⟩
        dsimp only [packV]
        all_goals (first | rfl | (exact fin0_opCheck_ok))
      · -- FFF
        refine VO.gy rfl ⟨_, rfl, rfl⟩ (.fa rfl tst49 rfl) ?_
        refine VO.gy rfl ⟨_, rfl, rfl⟩ (.ld1 102 rfl tk4 rfl (cellsAt_one rfl rfl)) ?_
        refine VO.gy rfl ⟨_, rfl, rfl⟩ (.not rfl) ?_
        refine VO.gy rfl ⟨_, rfl, rfl⟩ (.mv rfl) ?_
        refine VO.decBN (t := 23) rfl (fun hc6 => ?_) (fun hc6 => ?_)
        · -- FFFT
          refine VO.gy rfl ⟨_, rfl, rfl⟩ (.fa rfl tst49 rfl) ?_
          refine VO.gy rfl ⟨_, rfl, rfl⟩ (.ld1 102 rfl tk9 rfl (cellsAt_one rfl rfl)) ?_
          refine VO.gy rfl ⟨_, rfl, rfl⟩ (.sneq rfl rfl) ?_
          refine VO.gy rfl ⟨_, rfl, rfl⟩ (.pT rfl rfl) ?_
          refine VO.y rfl (.pF rfl rfl) ?_
          refine VO.k4 0 1 2 28 ?_
          refine VC.cond rfl (fun hc7 => ?_) (fun hc7 => ?_)
          · -- FFFTT
            refine VC.rs ?_
            refine VO.as ?_
            refine VO.kp [102, 0] [(102, mone g1 (.cells [Value.bool d0.1, str (d0.2.1), str (d0.2.2)].toArray 49 (0, 0))), (0, wm W)] ?_
            refine VO.k4 0 1 2 28 ?_
            refine VC.ret ?_
            refine outR ?_
            refine ⟨_, _, res_run (rs := [.tmp 2]) rfl (.tmp rfl .nil), fun W_ hI => out_of (l := []) hI [] rfl rfl (mle_refl _) (fun hS_ => ?_)⟩
            dsimp only [packV]
            all_goals (first | rfl | (exact fin0_opCheck_ok))
          · -- FFFTF
            refine VC.skip ?_
            refine outN ?_
            refine VC.rs ?_
            refine VO.as ?_
            refine VO.kp [102, 0] [(102, mone g1 (.cells [Value.bool d0.1, str (d0.2.1), str (d0.2.2)].toArray 49 (0, 0))), (0, wm W)] ?_
            refine VO.k4 0 1 2 28 ?_
            refine VC.ret ?_
            refine ⟨_, _, res_run (rs := [.tmp 2]) rfl (.tmp rfl .nil), fun W_ hI => out_of (l := []) hI [] rfl rfl (mle_refl _) (fun hS_ => ?_)⟩
            dsimp only [packV]
            all_goals (first | rfl | (exact fin0_opCheck_ok))
        · -- FFFF
          refine VO.gN ?_
          refine VO.gN ?_
          refine VO.gN ?_
          refine VO.gy rfl ⟨_, rfl, rfl⟩ (.pF rfl rfl) ?_
          refine VO.y rfl (.pF rfl rfl) ?_
          refine VO.k4 0 1 2 28 ?_
          refine VC.condF rfl ?_
          refine VC.skip ?_
          refine outN ?_
          refine VC.rs ?_
          refine VO.as ?_
          refine VO.kp [102, 0] [(102, mone g1 (.cells [Value.bool d0.1, str (d0.2.1), str (d0.2.2)].toArray 49 (0, 0))), (0, wm W)] ?_
          refine VO.k4 0 1 2 28 ?_
          refine VC.ret ?_
          refine ⟨_, _, res_run (rs := [.tmp 2]) rfl (.tmp rfl .nil), fun W_ hI => out_of (l := []) hI [] rfl rfl (mle_refl _) (fun hS_ => ?_)⟩
          dsimp only [packV]
          all_goals (first | rfl | (exact fin0_opCheck_ok))
theorem fin0_refOpCheck_ok {P : Prop} (h : P := by congr 1; first | exact (opCheck_bad (fun h => by have := h.1; have := h.2.1; have := h.2.2.1; omega)).symm | exact (opCheck_bad (fun h => by rcases h.2.2.2 with e | e <;> first | exact absurd e ‹¬ _ = _› | simp [e] at *)).symm | exact (opCheck_good ⟨by omega, by omega, by omega, by first | exact .inl ‹d0.1 = true› | exact .inr (by simpa using ‹¬ ¬ _›)⟩).symm) : P := h
theorem refOpCheck_ok (W : World) {v0 : List Value} {d0 : DOp} (h0 : Rd TOp (wm W) v0 d0) : CallR Try.prog 99 [.agg v0.toArray] W (mnil) (fun v m' => v = .int .i64 (opCheck d0)) := by
  obtain ⟨rfl, p0_1, p0_2⟩ := open_Op (x0 := d0.1) (x1 := d0.2.1) (x2 := d0.2.2) h0
  simp only [maxLen] at p0_1
  simp only [maxLen] at p0_2
  refine CallR.ofA (n := 29) Try.func99 rfl rfl rfl ?_
  refine VC.rs ?_
  refine VO.box (cs := [Value.bool d0.1, str (d0.2.1), str (d0.2.2)]) 102 rfl rfl rfl (fun g1 => ?_)
  refine VO.as ?_
  refine VO.k3 0 1 2 ?_
  refine VC.seq ?_
  refine VC.rs ?_
  refine VO.y rfl (.fa rfl tst49 rfl) ?_
  refine VO.y rfl (.ld1 102 rfl tk9 rfl (cellsAt_one rfl rfl)) ?_
  refine VO.y rfl (.lenT rfl Try.underlying9) ?_
  refine VO.y rfl (.lss rfl rfl) ?_
  refine VO.mv ?_
  refine VO.dec (t := 7) rfl (fun hc3 => ?_) (fun hc3 => ?_)
  · -- T
    refine VO.gN ?_
    refine VO.gN ?_
    refine VO.gN ?_
    refine VO.gN ?_
    refine VO.y rfl (.pT rfl rfl) ?_
    refine VO.mv ?_
    refine VO.gN ?_
    refine VO.gN ?_
    refine VO.gN ?_
    refine VO.gN ?_
    refine VO.y rfl (.pT rfl rfl) ?_
    refine VO.mv ?_
    refine VO.gN ?_
    refine VO.gN ?_
    refine VO.gN ?_
    refine VO.gN ?_
    refine VO.gn rfl (.inr ⟨_, rfl, rfl⟩) ?_
    refine VO.gn rfl (.inr ⟨_, rfl, rfl⟩) ?_
    refine VO.gn rfl (.inr ⟨_, rfl, rfl⟩) ?_
    refine VO.gN ?_
    refine VO.y rfl (.pT rfl rfl) ?_
    refine VO.k4 0 1 2 28 ?_
    refine VC.condT rfl ?_
    refine VC.rs ?_
    refine VO.as ?_
    refine VO.kp [102, 0] [(102, mone g1 (.cells [Value.bool d0.1, str (d0.2.1), str (d0.2.2)].toArray 49 (0, 0))), (0, wm W)] ?_
    refine VO.k4 0 1 2 28 ?_
    refine VC.ret ?_
    refine outR ?_
    refine ⟨_, _, res_run (rs := [.tmp 2]) rfl (.tmp rfl .nil), fun W_ hI => out_of (l := []) hI [] rfl rfl (mle_refl _) (fun hS_ => ?_)⟩
    dsimp only [packV]
    all_goals (first | rfl | (exact fin0_refOpCheck_ok))
  · -- F
    refine VO.gy rfl ⟨_, rfl, rfl⟩ (.fa rfl tst49 rfl) ?_
    refine VO.gy rfl ⟨_, rfl, rfl⟩ (.ld1 102 rfl tk9 rfl (cellsAt_one rfl rfl)) ?_
    refine VO.gy rfl ⟨_, rfl, rfl⟩ (.lenT rfl Try.underlying9) ?_
    refine VO.gy rfl ⟨_, rfl, rfl⟩ (.gtr rfl rfl) ?_
    refine VO.y rfl (.pF rfl rfl) ?_
    refine VO.mv ?_
    refine VO.dec (t := 13) rfl (fun hc4 => ?_) (fun hc4 => ?_)
    · -- FT
      refine VO.gN ?_
      refine VO.gN ?_
      refine VO.gN ?_
      refine VO.gN ?_
      refine VO.y rfl (.pT rfl rfl) ?_
      refine VO.mv ?_
      refine VO.gN ?_
      refine VO.gN ?_
      refine VO.gN ?_
      refine VO.gN ?_
      refine VO.gn rfl (.inr ⟨_, rfl, rfl⟩) ?_
      refine VO.gn rfl (.inr ⟨_, rfl, rfl⟩) ?_
      refine VO.gn rfl (.inr ⟨_, rfl, rfl⟩) ?_
      refine VO.gN ?_
      refine VO.y rfl (.pT rfl rfl) ?_
      refine VO.k4 0 1 2 28 ?_
      refine VC.condT rfl ?_
      refine VC.rs ?_
      refine VO.as ?_
      refine VO.kp [102, 0] [(102, mone g1 (.cells [Value.bool d0.1, str (d0.2.1), str (d0.2.2)].toArray 49 (0, 0))), (0, wm W)] ?_
      refine VO.k4 0 1 2 28 ?_
      refine VC.ret ?_
      refine outR ?_
      refine ⟨_, _, res_run (rs := [.tmp 2]) rfl (.tmp rfl .nil), fun W_ hI => out_of (l := []) hI [] rfl rfl (mle_refl _) (fun hS_ => ?_)⟩
      dsimp only [packV]
      all_goals (first | rfl | (exact fin0_refOpCheck_ok))
    · -- FF
      refine VO.gy rfl ⟨_, rfl, rfl⟩ (.fa rfl tst49 rfl) ?_
      refine VO.gy rfl ⟨_, rfl, rfl⟩ (.ld1 102 rfl tk9 rfl (cellsAt_one rfl rfl)) ?_
      refine VO.gy rfl ⟨_, rfl, rfl⟩ (.lenT rfl Try.underlying9) ?_
      refine VO.gy rfl ⟨_, rfl, rfl⟩ (.gtr rfl rfl) ?_
      refine VO.y rfl (.pF rfl rfl) ?_
      refine VO.mv ?_
      refine VO.dec (t := 19) rfl (fun hc5 => ?_) (fun hc5 => ?_)
      · -- FFT
        refine VO.gN ?_
        refine VO.gN ?_
        refine VO.gN ?_
        refine VO.gN ?_
        refine VO.gn rfl (.inr ⟨_, rfl, rfl⟩) ?_
        refine VO.gn rfl (.inr ⟨_, rfl, rfl⟩) ?_
        refine VO.gn rfl (.inr ⟨_, rfl, rfl⟩) ?_
        refine VO.gN ?_
        refine VO.y rfl (.pT rfl rfl) ?_
        refine VO.k4 0 1 2 28 ?_
        refine VC.condT rfl ?_
        refine VC.rs ?_
        refine VO.as ?_
        refine VO.kp [102, 0] [(102, mone g1 (.cells [Value.bool d0.1, str (d0.2.1), str (d0.2.2)].toArray 49 (0, 0))), (0, wm W)] ?_
        refine VO.k4 0 1 2 28 ?_
        refine VC.ret ?_
        refine outR ?_
        refine ⟨_, _, res_run (rs := [.tmp 2]) rfl (.tmp rfl .nil), fun W_ hI => out_of (l := []) hI [] rfl rfl (mle_refl _) (fun hS_ => ?_)⟩
        dsimp only [packV]
        all_goals (first | rfl | (exact fin0_refOpCheck_ok))
      · -- FFF
        refine VO.gy rfl ⟨_, rfl, rfl⟩ (.fa rfl tst49 rfl) ?_
        refine VO.gy rfl ⟨_, rfl, rfl⟩ (.ld1 102 rfl tk4 rfl (cellsAt_one rfl rfl)) ?_
        refine VO.gy rfl ⟨_, rfl, rfl⟩ (.not rfl) ?_
        refine VO.gy rfl ⟨_, rfl, rfl⟩ (.mv rfl) ?_
        refine VO.decBN (t := 23) rfl (fun hc6 => ?_) (fun hc6 => ?_)
        · -- FFFT
          refine VO.gy rfl ⟨_, rfl, rfl⟩ (.fa rfl tst49 rfl) ?_
          refine VO.gy rfl ⟨_, rfl, rfl⟩ (.ld1 102 rfl tk9 rfl (cellsAt_one rfl rfl)) ?_
          refine VO.gy rfl ⟨_, rfl, rfl⟩ (.sneq rfl rfl) ?_
          refine VO.gy rfl ⟨_, rfl, rfl⟩ (.pT rfl rfl) ?_
          refine VO.y rfl (.pF rfl rfl) ?_
          refine VO.k4 0 1 2 28 ?_
          refine VC.cond rfl (fun hc7 => ?_) (fun hc7 => ?_)
          · -- FFFTT
            refine VC.rs ?_
            refine VO.as ?_
            refine VO.kp [102, 0] [(102, mone g1 (.cells [Value.bool d0.1, str (d0.2.1), str (d0.2.2)].toArray 49 (0, 0))), (0, wm W)] ?_
            refine VO.k4 0 1 2 28 ?_
            refine VC.ret ?_
            refine outR ?_
            refine ⟨_, _, res_run (rs := [.tmp 2]) rfl (.tmp rfl .nil), fun W_ hI => out_of (l := []) hI [] rfl rfl (mle_refl _) (fun hS_ => ?_)⟩
            dsimp only [packV]
            all_goals (first | rfl | (exact fin0_refOpCheck_ok))
          · -- FFFTF
            refine VC.skip ?_
            refine outN ?_
            refine VC.rs ?_
            refine VO.as ?_
            refine VO.kp [102, 0] [(102, mone g1 (.cells [Value.bool d0.1, str (d0.2.1), str (d0.2.2)].toArray 49 (0, 0))), (0, wm W)] ?_
            refine VO.k4 0 1 2 28 ?_
            refine VC.ret ?_
            refine ⟨_, _, res_run (rs := [.tmp 2]) rfl (.tmp rfl .nil), fun W_ hI => out_of (l := []) hI [] rfl rfl (mle_refl _) (fun hS_ => ?_)⟩
            dsimp only [packV]
            all_goals (first | rfl | (exact fin0_refOpCheck_ok))
        · -- FFFF
          refine VO.gN ?_
          refine VO.gN ?_
          refine VO.gN ?_
          refine VO.gy rfl ⟨_, rfl, rfl⟩ (.pF rfl rfl) ?_
          refine VO.y rfl (.pF rfl rfl) ?_
          refine VO.k4 0 1 2 28 ?_
          refine VC.condF rfl ?_
          refine VC.skip ?_
          refine outN ?_
          refine VC.rs ?_
          refine VO.as ?_
          refine VO.kp [102, 0] [(102, mone g1 (.cells [Value.bool d0.1, str (d0.2.1), str (d0.2.2)].toArray 49 (0, 0))), (0, wm W)] ?_
          refine VO.k4 0 1 2 28 ?_
          refine VC.ret ?_
          refine ⟨_, _, res_run (rs := [.tmp 2]) rfl (.tmp rfl .nil), fun W_ hI => out_of (l := []) hI [] rfl rfl (mle_refl _) (fun hS_ => ?_)⟩
          dsimp only [packV]
          all_goals (first | rfl | (exact fin0_refOpCheck_ok))
theorem within_ok (W : World) (d0 : Int) (h0 : inK .i64 d0) : CallR Try.prog 109 [.int .i64 d0] W (mnil) (fun v m' => v = .bool (decide (1 ≤ d0 ∧ d0 ≤ 1048576))) := by
  have h0' := h0; simp only [inK] at h0'
  refine CallR.ofA (n := 9) Try.func109 rfl rfl rfl ?_
  refine VC.rs ?_
  refine VO.as ?_
  refine VO.k2 0 2 ?_
  refine VC.rs ?_
  refine VO.mv ?_
  refine VO.y rfl (.geq rfl rfl) ?_
  refine VO.mv ?_
  refine VO.dec (t := 5) rfl (fun hc1 => ?_) (fun hc1 => ?_)
  · -- T
    refine VO.gy rfl ⟨_, rfl, rfl⟩ (.mv rfl) ?_
    refine VO.gy rfl ⟨_, rfl, rfl⟩ (.leq rfl rfl) ?_
    refine VO.y rfl (.pT rfl rfl) ?_
    refine VO.as ?_
    refine VO.k2 0 2 ?_
    refine VC.ret ?_
    refine ⟨_, _, res_run (rs := [.tmp 2]) rfl (.tmp rfl .nil), fun W_ hI => out_of (l := []) hI [] rfl rfl (mle_refl _) (fun hS_ => ?_)⟩
    dsimp only [packV]
    all_goals (first | rfl | (simp [*]))
  · -- F
    refine VO.gN ?_
    refine VO.gN ?_
    refine VO.y rfl (.pF rfl rfl) ?_
    refine VO.as ?_
    refine VO.k2 0 2 ?_
    refine VC.ret ?_
    refine ⟨_, _, res_run (rs := [.tmp 2]) rfl (.tmp rfl .nil), fun W_ hI => out_of (l := []) hI [] rfl rfl (mle_refl _) (fun hS_ => ?_)⟩
    dsimp only [packV]
    all_goals (first | rfl | (simp [*]))
end
section
set_option linter.unusedVariables false
def cCheck (c : DCommit) : Int := if 1 ≤ c.1 ∧ c.1 ≤ 1048576 then if 1 ≤ c.2.1 ∧ c.2.1 ≤ 1048576 then batchCheck c.2.2 else 2 else 2
def cFollowsAt : Int → Int → Int → List DCommit → DFault
  | _, _, _, [] => (0, 0)
  | e, n, i, c :: r => if cCheck c ≠ 0 then (cCheck c, i) else if c.2.1 - 1 ≠ n ∨ c.1 < e then (15, i) else cFollowsAt c.1 c.2.1 (i + 1) r
def cFollows (e n : Int) (l : List DCommit) : DFault := cFollowsAt e n 0 l
theorem drop_next {α : Type} {l : List α} {k : Nat} {x : α} (h : l[k]? = some x) : l.drop k = x :: l.drop (k + 1) := by
  obtain ⟨h1, h2⟩ := List.getElem?_eq_some_iff.1 h
  rw [List.drop_eq_getElem_cons h1, h2]
theorem batchCheck_ok {l : List DOp} (h : batchCheck l = 0) : l.length ≤ 8 := by
  unfold batchCheck at h
  split at h
  · omega
  · split at h
    · cases h
    · omega
theorem batchCheck_range (l : List DOp) : 0 ≤ batchCheck l ∧ batchCheck l ≤ 3 := by
  unfold batchCheck
  split
  · omega
  · split
    · omega
    · split <;> omega
theorem cCheck_range (c : DCommit) : 0 ≤ cCheck c ∧ cCheck c ≤ 3 := by
  unfold cCheck
  split
  · split
    · exact batchCheck_range _
    · omega
  · omega
theorem cCheck_ok {c : DCommit} (h : cCheck c = 0) : 1 ≤ c.1 ∧ c.1 ≤ 1048576 ∧ 1 ≤ c.2.1 ∧ c.2.1 ≤ 1048576 ∧ batchCheck c.2.2 = 0 := by
  unfold cCheck at h
  split at h
  · split at h
    · exact ⟨by omega, by omega, by omega, by omega, h⟩
    · cases h
  · cases h
theorem cFollowsAt_ok : ∀ {l : List DCommit} {e n i : Int}, (cFollowsAt e n i l).1 = 0 → ∀ c ∈ l, cCheck c = 0
  | c :: r, e, n, i, h, x, hx => by
    unfold cFollowsAt at h
    split at h
    · exact absurd h (by assumption)
    · rename_i h1
      split at h
      · cases h
      · rcases List.mem_cons.1 hx with rfl | hx
        · exact Decidable.not_not.1 h1
        · exact cFollowsAt_ok h x hx
theorem follows_step {e n i : Int} {l : List DCommit} {k : Nat} {x : DCommit} (h : l[k]? = some x) (h1 : cCheck x = 0) (h2 : ¬ ¬ x.2.1 - 1 = n) (h3 : ¬ x.1 < e) : cFollowsAt e n i (l.drop k) = cFollowsAt x.1 x.2.1 (i + 1) (l.drop (k + 1)) := by
  rw [drop_next h]
  show (if cCheck x ≠ 0 then _ else _) = _
  rw [if_neg (by simpa using h1), if_neg (by simp only [not_or]; exact ⟨h2, h3⟩)]
theorem follows_bad {e n i : Int} {l : List DCommit} {k : Nat} {x : DCommit} (h : l[k]? = some x) (h1 : ¬ cCheck x = 0) : cFollowsAt e n i (l.drop k) = (cCheck x, i) := by
  rw [drop_next h]
  show (if cCheck x ≠ 0 then _ else _) = _
  rw [if_pos h1]
theorem follows_order {e n i : Int} {l : List DCommit} {k : Nat} {x : DCommit} (h : l[k]? = some x) (h1 : cCheck x = 0) (h2 : ¬ x.2.1 - 1 = n ∨ x.1 < e) : cFollowsAt e n i (l.drop k) = (15, i) := by
  rw [drop_next h]
  show (if cCheck x ≠ 0 then _ else _) = _
  rw [if_neg (by simpa using h1), if_pos h2]
theorem all_next {α : Type} {l : List α} {k : Nat} {x : α} {p : α → Prop} (h : ∀ o ∈ l.take k, p o) (hx : l[k]? = some x) (hp : p x) : ∀ o ∈ l.take (k + 1), p o := fun o ho => by
  rw [List.take_add_one, hx] at ho
  rcases List.mem_append.1 ho with h1 | h1
  · exact h o h1
  · simp at h1; rw [h1]; exact hp
theorem bcheck_empty {l : List DOp} (h : (l.length : Int) = 0) : batchCheck l = 2 := if_pos (by omega)
theorem bcheck_long {l : List DOp} (h : (8 : Int) < l.length) : batchCheck l = 3 := by unfold batchCheck; rw [if_neg (by omega), if_pos (by omega)]
theorem bcheck_bad {l : List DOp} {k : Nat} {x : DOp} (h0 : ¬ (l.length : Int) = 0) (h1 : ¬ (8 : Int) < l.length) (hx : l[k]? = some x) (h : ¬ opCheck x = 0) : batchCheck l = opCheck x := by
  have hb : ¬ opOk x := fun e => h (opCheck_good e)
  unfold batchCheck
  rw [if_neg (by omega), if_neg (by omega), if_neg, opCheck_bad hb]
  exact fun e => hb (e x (List.mem_of_getElem? hx))
theorem bcheck_good {l : List DOp} {k : Nat} (h0 : ¬ (l.length : Int) = 0) (h1 : ¬ (8 : Int) < l.length) (h : ∀ o ∈ l.take k, opOk o) (hk : ¬ (k : Int) < l.length) : batchCheck l = 0 := by
  rw [List.take_of_length_le (by omega)] at h
  unfold batchCheck
  rw [if_neg (by omega), if_neg (by omega), if_pos h]
def exC : List DCommit := [(1, 1, [(false, [107], [])]), (1, 2, [(false, [107], [])]), (1, 3, [(false, [107], [])]), (1, 4, [(false, [107], [])]), (1, 5, [(false, [107], [])]), (3, 6, [(false, [107], [])])]
theorem clone_nil {m : Mem} {A : Option Addr} {c : Nat} {l : List DOp} (h : Rd (.sl TOp) m [.slice A l.length c] l) (hA : A = none) : l = [] := by
  subst hA
  obtain ⟨A', c', h1, _, _, h4⟩ := h
  rcases h4 with h4 | ⟨g, off, all, k1, _⟩
  · exact List.eq_nil_of_length_eq_zero h4
  · simp only [List.cons.injEq, Value.slice.injEq, and_true] at h1
    rw [← h1.1] at k1; cases k1
theorem commit_ext {x y : DCommit} (h1 : x.1 = y.1) (h2 : x.2.1 = y.2.1) (h3 : x.2.2 = y.2.2) : x = y := Prod.ext h1 (Prod.ext h2 h3)
theorem message_ext {x y : DMessage} (h1 : x.1 = y.1) (h2 : x.2.1 = y.2.1) (h3 : x.2.2.1 = y.2.2.1) (h4 : x.2.2.2.1 = y.2.2.2.1) (h5 : x.2.2.2.2.1 = y.2.2.2.2.1) (h6 : x.2.2.2.2.2.1 = y.2.2.2.2.2.1) (h7 : x.2.2.2.2.2.2.1 = y.2.2.2.2.2.2.1) (h8 : x.2.2.2.2.2.2.2 = y.2.2.2.2.2.2.2) : x = y :=
  Prod.ext h1 (Prod.ext h2 (Prod.ext h3 (Prod.ext h4 (Prod.ext h5 (Prod.ext h6 (Prod.ext h7 h8))))))
theorem follows_len : ∀ {l : List DCommit} {e n i : Int}, (cFollowsAt e n i l).1 = 0 → n ≤ 1048576 → (l.length : Int) + n ≤ 1048576
  | [], _, _, _, _, h => by simpa using h
  | c :: r, e, n, i, h, hn => by
    unfold cFollowsAt at h
    split at h
    · exact absurd h (by assumption)
    · rename_i h1
      split at h
      · cases h
      · rename_i h2
        have h3 := cCheck_ok (Decidable.not_not.1 h1)
        have := follows_len h (by omega)
        simp only [List.length_cons]; omega
theorem take_one {α : Type} {l : List α} {k : Nat} {x : α} (h : l[k]? = some x) : l.take (k + 1) = l.take k ++ [x] := by rw [List.take_add_one, h]; rfl
end
section
set_option linter.unusedVariables false
set_option linter.unusedSimpArgs false
set_option maxRecDepth 4000
theorem fnOk109 : fnOk Try.prog 109 = true := by kernel_rfl
theorem fnOk111 : fnOk Try.prog 111 = true := by kernel_rfl
theorem fnOk26 : fnOk Try.prog 26 = true := by kernel_rfl
theorem fnOk50 : fnOk Try.prog 50 = true := by kernel_rfl
theorem fnOk52 : fnOk Try.prog 52 = true := by kernel_rfl
theorem fnOk95 : fnOk Try.prog 95 = true := by kernel_rfl
theorem teq57 (a0 : Int) (a1 : Int) : plainS Try.prog 57 [.int .i64 a0, .int .i64 a1] = true := by kernel_rfl
theorem tk22 : tk Try.prog 22 = some none := by kernel_rfl
theorem tk26 : tk Try.prog 26 = some none := by kernel_rfl
theorem tk3 : tk Try.prog 3 = some none := by kernel_rfl
theorem tk52 : tk Try.prog 52 = some (some 3) := by kernel_rfl
theorem tk57 : tk Try.prog 57 = some (some 2) := by kernel_rfl
theorem tk72 : tk Try.prog 72 = some (some 8) := by kernel_rfl
theorem tsl61 : tsl Try.prog 61 = some (52, 3, 40) := by kernel_rfl
theorem tsl70 : tsl Try.prog 70 = some (90, 2, 16) := by kernel_rfl
theorem tst52 : tst Try.prog 52 = some [(0, 1), (1, 1), (2, 1)] := by kernel_rfl
theorem tst57 : tst Try.prog 57 = some [(0, 1), (1, 1)] := by kernel_rfl
theorem tst72 : tst Try.prog 72 = some [(0, 1), (1, 1), (2, 1), (3, 1), (4, 1), (5, 1), (6, 1), (7, 1)] := by kernel_rfl
theorem tst90 : tst Try.prog 90 = some [(0, 1), (1, 1)] := by kernel_rfl
theorem tz52 : tz Try.prog 52 = some [.int .i64 0, .int .i64 0, .slice none 0 0] := by kernel_rfl
theorem tz57 : tz Try.prog 57 = some [.int .i64 0, .int .i64 0] := by kernel_rfl
theorem tz72 : tz Try.prog 72 = some [.int .i64 0, .int .i64 0, .int .u8 0, .int .i64 0, .slice none 0 0, .int .i64 0, .int .i64 0, .slice none 0 0] := by kernel_rfl
theorem tz90 : tz Try.prog 90 = some [.int .i64 0, .int .i64 0] := by kernel_rfl
theorem bCheck_ok (W : World) {v0 : Value} {d0 : List DOp} (h0 : Rd (.sl TOp) (wm W) [v0] d0) : CallR Try.prog 26 [v0] W (mnil) (fun v m' => v = .int .i64 (batchCheck d0)) := by
  obtain ⟨A0, c0, rfl, l0, k0⟩ := h0.slice
  simp only [maxLen] at k0
  refine CallR.ofA (n := 26) Try.func26 rfl rfl rfl ?_
  refine VC.rs ?_
  refine VO.as ?_
  refine VO.k2 0 2 ?_
  refine VC.seq ?_
  refine VC.block ?_
  refine VC.rs ?_
  refine VO.mv ?_
  refine VO.y rfl (.lenS rfl tsl22) ?_
  refine VO.y rfl (.eql rfl rfl) ?_
  refine VO.as ?_
  refine VO.k3 0 2 6 ?_
  refine VC.cond rfl (fun hc1 => ?_) (fun hc1 => ?_)
  · -- T
    refine VC.rs ?_
    refine VO.as ?_
    refine VO.kp [0] [(0, wm W)] ?_
    refine VO.k3 0 2 6 ?_
    refine VC.ret ?_
    refine outBR ?_
    refine outR ?_
    refine ⟨_, _, res_run (rs := [.tmp 2]) rfl (.tmp rfl .nil), fun W_ hI => out_of (l := []) hI [] rfl rfl (mle_refl _) (fun hS_ => ?_)⟩
    dsimp only [packV]
    all_goals (first | rfl | (congr 1; first | exact (bcheck_empty ‹_›).symm | exact (bcheck_long ‹_›).symm | exact (bcheck_bad ‹_› ‹_› ‹d0[k]? = some _› ‹_›).symm | exact (bcheck_good ‹¬ (d0.length : Int) = 0› ‹¬ (8 : Int) < d0.length› ha ‹_›).symm))
  · -- F
    refine VC.rs ?_
    refine VO.mv ?_
    refine VO.y rfl (.lenS rfl tsl22) ?_
    refine VO.y rfl (.gtr rfl rfl) ?_
    refine VO.as ?_
    refine VO.kp [0] [(0, wm W)] ?_
    refine VO.k4 0 2 6 10 ?_
    refine VC.cond rfl (fun hc2 => ?_) (fun hc2 => ?_)
    · -- FT
      refine VC.rs ?_
      refine VO.as ?_
      refine VO.k4 0 2 6 10 ?_
      refine VC.ret ?_
      refine outBR ?_
      refine outR ?_
      refine ⟨_, _, res_run (rs := [.tmp 2]) rfl (.tmp rfl .nil), fun W_ hI => out_of (l := []) hI [] rfl rfl (mle_refl _) (fun hS_ => ?_)⟩
      dsimp only [packV]
      all_goals (first | rfl | (congr 1; first | exact (bcheck_empty ‹_›).symm | exact (bcheck_long ‹_›).symm | exact (bcheck_bad ‹_› ‹_› ‹d0[k]? = some _› ‹_›).symm | exact (bcheck_good ‹¬ (d0.length : Int) = 0› ‹¬ (8 : Int) < d0.length› ha ‹_›).symm))
    · -- FF
      refine VC.skip ?_
      refine outBN ?_
      refine outN ?_
      refine VC.seq ?_
      refine VC.rs ?_
      refine VO.mv ?_
      refine VO.y rfl (.lenS rfl tsl22) ?_
      refine VO.mv ?_
      refine VO.k7 0 2 6 10 14 15 16 ?_
      refine VC.block ?_
      refine VC.loop (G := Nat) (fun k => [(16, Value.int .i64 (((k : Nat) : Int))), (0, Value.slice A0 (d0.length) (c0)), (6, Value.bool (decide (((d0.length : Nat) : Int) = 0))), (10, Value.bool (decide (8 < ((d0.length : Nat) : Int)))), (14, Value.slice A0 (d0.length) (c0)), (15, Value.int .i64 (((d0.length : Nat) : Int)))]) (fun k => [(0, wm W)]) (fun k => (k ≤ d0.length) ∧ (∀ o ∈ d0.take k, opOk o)) (fun k => d0.length - k) 0 (⟨by omega, by simp⟩) ⟨⟨rfl, rfl, rfl, rfl, rfl, rfl, trivial⟩, fun _ h => h.sub [0]⟩ ?_
      rintro k ⟨hk, ha⟩
      refine VC.rs ?_
      refine VO.y rfl (.lss rfl rfl) ?_
      refine VO.k7 0 6 10 14 15 16 17 ?_
      refine VC.seq ?_
      refine VC.cond rfl (fun hc3 => ?_) (fun hc3 => ?_)
      · -- FFT
        refine VC.skip ?_
        refine outN ?_
        refine VC.seq ?_
        refine VC.block ?_
        refine VC.rs ?_
        obtain ⟨x4, hx4⟩ : ∃ z_, (d0)[k]? = some z_ := ⟨_, List.getElem?_eq_getElem bd⟩
        obtain ⟨gg4, oo4, ec4, ea4, hce4, hre4⟩ := h0.elem hx4
        cases ea4
        obtain ⟨rfl, q4_1, q4_2⟩ := open_Op (x0 := x4.1) (x1 := x4.2.1) (x2 := x4.2.2) hre4
        simp only [maxLen] at q4_1
        simp only [maxLen] at q4_2
        refine VO.y rfl (.ixI k rfl rfl tsl22 rfl bd) ?_
        refine VO.y rfl (.ldA 0 rfl tk49 rfl hce4) ?_
        refine VO.alloc 106 rfl tz49 (fun g5 => ?_)
        refine VO.store (k := 3) (c' := [Value.bool x4.1, str (x4.2.1), str (x4.2.2)]) 106 rfl rfl (.inl tk49) rfl rfl rfl rfl rfl ?_
        refine VO.kp [106, 0] [(106, mone g5 (.cells [Value.bool x4.1, str (x4.2.1), str (x4.2.2)].toArray 49 (0, 0))), (0, wm W)] ?_
        refine VO.k8 0 4 6 10 14 15 16 17 ?_
        refine VC.rs ?_
        refine VO.y rfl (.ldA 106 rfl tk49 rfl (cellsAt_one rfl rfl)) ?_
        refine VO.callN 107 rfl fnOk95 rfl (fun W hW => opCheck_ok W (Rd.mono hre4 (hW.at (i := 0) rfl))) (fun v7 m7 hv7 => ?_)
        subst hv7
        refine VO.as ?_
        refine VO.k9 0 4 5 6 10 14 15 16 17 ?_
        refine VC.rs ?_
        refine VO.mv ?_
        refine VO.y rfl (.neq rfl rfl) ?_
        refine VO.k10 0 4 5 6 10 14 15 16 17 23 ?_
        refine VC.cond rfl (fun hc8 => ?_) (fun hc8 => ?_)
        · -- FFTT
          refine VC.rs ?_
          refine VO.mv ?_
          refine VO.as ?_
          refine VO.kp [106, 0] [(106, mone g5 (.cells [Value.bool x4.1, str (x4.2.1), str (x4.2.2)].toArray 49 (0, 0))), (0, wm W)] ?_
          refine VO.k11 0 2 4 5 6 10 14 15 16 17 23 ?_
          refine VC.ret ?_
          refine outBR ?_
          refine outR ?_
          refine outR ?_
          refine outBR ?_
          refine outR ?_
          refine ⟨_, _, res_run (rs := [.tmp 2]) rfl (.tmp rfl .nil), fun W_ hI => out_of (l := []) hI [] rfl rfl (mle_refl _) (fun hS_ => ?_)⟩
          dsimp only [packV]
          all_goals (first | rfl | (congr 1; first | exact (bcheck_empty ‹_›).symm | exact (bcheck_long ‹_›).symm | exact (bcheck_bad ‹_› ‹_› ‹d0[k]? = some _› ‹_›).symm | exact (bcheck_good ‹¬ (d0.length : Int) = 0› ‹¬ (8 : Int) < d0.length› ha ‹_›).symm))
        · -- FFTF
          refine VC.skip ?_
          refine outBN ?_
          refine outN ?_
          refine VC.reg ?_
          refine VO.y rfl (.add (c := ((k + 1 : Nat) : Int)) rfl rfl (by omega) ⟨bd, bd⟩) ?_
          refine VO.mv ?_
          refine VO.kp [106, 0] [(106, mone g5 (.cells [Value.bool x4.1, str (x4.2.1), str (x4.2.2)].toArray 49 (0, 0))), (0, wm W)] ?_
          refine VO.k10 0 4 5 6 10 14 15 16 17 23 ?_
          exact outN ⟨k + 1, ⟨by omega, by exact all_next ha ‹d0[k]? = some _› (opOk_of (Decidable.not_not.1 ‹¬ ¬ _›))⟩, bd, ⟨⟨rfl, rfl, rfl, rfl, rfl, rfl, trivial⟩, fun _ h => Inv.sub h [0]⟩⟩
      · -- FFF
        refine VC.exit ?_
        refine outE ?_
        refine outE ?_
        refine outBB ?_
        refine outN ?_
        refine VC.rs ?_
        refine VO.as ?_
        refine VO.kp [0] [(0, wm W)] ?_
        refine VO.k8 0 2 6 10 14 15 16 17 ?_
        refine VC.ret ?_
        refine ⟨_, _, res_run (rs := [.tmp 2]) rfl (.tmp rfl .nil), fun W_ hI => out_of (l := []) hI [] rfl rfl (mle_refl _) (fun hS_ => ?_)⟩
        dsimp only [packV]
        all_goals (first | rfl | (congr 1; first | exact (bcheck_empty ‹_›).symm | exact (bcheck_long ‹_›).symm | exact (bcheck_bad ‹_› ‹_› ‹d0[k]? = some _› ‹_›).symm | exact (bcheck_good ‹¬ (d0.length : Int) = 0› ‹¬ (8 : Int) < d0.length› ha ‹_›).symm))
theorem cCheck_ok_ (W : World) {v0 : List Value} {d0 : DCommit} (h0 : Rd TCommit (wm W) v0 d0) : CallR Try.prog 50 [.agg v0.toArray] W (mnil) (fun v m' => v = .int .i64 (cCheck d0)) := by
  obtain ⟨p0_A2, p0_c2, rfl, p0_0, p0_1, p0_2⟩ := open_Commit (x0 := d0.1) (x1 := d0.2.1) (x2 := d0.2.2) h0
  simp only [inK] at p0_0
  simp only [inK] at p0_1
  have p0_r2 := Rd.room p0_2
  refine CallR.ofA (n := 16) Try.func50 rfl rfl rfl ?_
  refine VC.rs ?_
  refine VO.box (cs := [Value.int .i64 (d0.1), Value.int .i64 (d0.2.1), Value.slice p0_A2 (d0.2.2.length) (p0_c2)]) 102 rfl rfl rfl (fun g1 => ?_)
  refine VO.as ?_
  refine VO.k3 0 1 2 ?_
  refine VC.seq ?_
  refine VC.rs ?_
  refine VO.y rfl (.fa rfl tst52 rfl) ?_
  refine VO.y rfl (.ld1 102 rfl tk3 rfl (cellsAt_one rfl rfl)) ?_
  refine VO.callN 103 rfl fnOk109 rfl (fun W hW => within_ok W d0.1 bdk) (fun v3 m3 hv3 => ?_)
  subst hv3
  refine VO.y rfl (.notD rfl) ?_
  refine VO.mv ?_
  refine VO.dec (t := 7) rfl (fun hc4 => ?_) (fun hc4 => ?_)
  · -- T
    refine VO.gN ?_
    refine VO.gN ?_
    refine VO.gN ?_
    refine VO.gN ?_
    refine VO.y rfl (.pT rfl rfl) ?_
    refine VO.k4 0 1 2 12 ?_
    refine VC.condT rfl ?_
    refine VC.rs ?_
    refine VO.as ?_
    refine VO.kp [102, 0] [(102, mone g1 (.cells [Value.int .i64 (d0.1), Value.int .i64 (d0.2.1), Value.slice p0_A2 (d0.2.2.length) (p0_c2)].toArray 52 (0, 0))), (0, wm W)] ?_
    refine VO.k4 0 1 2 12 ?_
    refine VC.ret ?_
    refine outR ?_
    refine ⟨_, _, res_run (rs := [.tmp 2]) rfl (.tmp rfl .nil), fun W_ hI => out_of (l := []) hI [] rfl rfl (mle_refl _) (fun hS_ => ?_)⟩
    dsimp only [packV]
    all_goals (first | rfl | (unfold cCheck; congr 1; split <;> (try split) <;> first | rfl | omega))
  · -- F
    refine VO.gy rfl ⟨_, rfl, rfl⟩ (.fa rfl tst52 rfl) ?_
    refine VO.gy rfl ⟨_, rfl, rfl⟩ (.ld1 102 rfl tk3 rfl (cellsAt_one rfl rfl)) ?_
    refine VO.gcallN 105 rfl ⟨_, rfl, rfl⟩ fnOk109 rfl (fun W hW => within_ok W d0.2.1 bdk) (fun v5 m5 hv5 => ?_)
    subst hv5
    refine VO.gy rfl ⟨_, rfl, rfl⟩ (.notD rfl) ?_
    refine VO.y rfl (.pF rfl rfl) ?_
    refine VO.k4 0 1 2 12 ?_
    refine VC.cond rfl (fun hc6 => ?_) (fun hc6 => ?_)
    · -- FT
      refine VC.rs ?_
      refine VO.as ?_
      refine VO.kp [102, 0] [(102, mone g1 (.cells [Value.int .i64 (d0.1), Value.int .i64 (d0.2.1), Value.slice p0_A2 (d0.2.2.length) (p0_c2)].toArray 52 (0, 0))), (0, wm W)] ?_
      refine VO.k4 0 1 2 12 ?_
      refine VC.ret ?_
      refine outR ?_
      refine ⟨_, _, res_run (rs := [.tmp 2]) rfl (.tmp rfl .nil), fun W_ hI => out_of (l := []) hI [] rfl rfl (mle_refl _) (fun hS_ => ?_)⟩
      dsimp only [packV]
      all_goals (first | rfl | (unfold cCheck; congr 1; split <;> (try split) <;> first | rfl | omega))
    · -- FF
      refine VC.skip ?_
      refine outN ?_
      refine VC.rs ?_
      refine VO.y rfl (.fa rfl tst52 rfl) ?_
      refine VO.y rfl (.ld1 102 rfl tk22 rfl (cellsAt_one rfl rfl)) ?_
      refine VO.callN 107 rfl fnOk26 rfl (fun W hW => bCheck_ok W (Rd.mono p0_2 (hW.at (i := 0) rfl))) (fun v7 m7 hv7 => ?_)
      subst hv7
      have hfa8 := batchCheck_range d0.2.2
      refine VO.as ?_
      refine VO.kp [102, 0] [(102, mone g1 (.cells [Value.int .i64 (d0.1), Value.int .i64 (d0.2.1), Value.slice p0_A2 (d0.2.2.length) (p0_c2)].toArray 52 (0, 0))), (0, wm W)] ?_
      refine VO.k4 0 1 2 12 ?_
      refine VC.ret ?_
      refine ⟨_, _, res_run (rs := [.tmp 2]) rfl (.tmp rfl .nil), fun W_ hI => out_of (l := []) hI [] rfl rfl (mle_refl _) (fun hS_ => ?_)⟩
      dsimp only [packV]
      all_goals (first | rfl | (unfold cCheck; congr 1; split <;> (try split) <;> first | rfl | omega))
theorem fin1_follows_ok {P : Prop} (h : P := by first | omega | (simp only [List.length_append, List.length_nil, List.length_cons, List.length_take, List.length_drop] at *; omega) | (have := cCheck_ok ‹cCheck _ = 0›; omega)) : P := h
theorem follows_ok (W : World) (d0 : Int) (h0 : inK .i64 d0) (d1 : Int) (h1 : inK .i64 d1) {v2 : Value} {d2 : List DCommit} (h2 : Rd (.sl TCommit) (wm W) [v2] d2) : CallR Try.prog 52 [.int .i64 d0, .int .i64 d1, v2] W (mnil) (fun v m' => ∃ (s0 : List Value), v = .agg s0.toArray ∧ Ow TFault m' s0 (cFollows d0 d1 d2)) := by
  have h0' := h0; simp only [inK] at h0'
  have h1' := h1; simp only [inK] at h1'
  obtain ⟨A2, c2, rfl, l2, k2⟩ := h2.slice
  simp only [maxLen] at k2
  refine CallR.ofA (n := 49) Try.func52 rfl rfl rfl ?_
  refine VC.rs ?_
  refine VO.alloc 102 rfl tz57 (fun g1 => ?_)
  refine VO.k4 0 1 2 6 ?_
  refine VC.seq ?_
  refine VC.rs ?_
  refine VO.mv ?_
  refine VO.y rfl (.lenS rfl tsl61) ?_
  refine VO.mv ?_
  refine VO.k7 0 1 2 6 10 11 12 ?_
  refine VC.block ?_
  refine VC.loop (G := Nat × Int × Int) (fun g => [(0, Value.int .i64 ((g.2.1))), (1, Value.int .i64 ((g.2.2))), (12, Value.int .i64 ((((g.1) : Nat) : Int))), (2, Value.slice A2 (d2.length) (c2)), (6, Value.pointer (some ⟨g1, 0, none⟩)), (10, Value.slice A2 (d2.length) (c2)), (11, Value.int .i64 (((d2.length : Nat) : Int)))]) (fun g => [(102, mone g1 (.cells [Value.int .i64 (0), Value.int .i64 (0)].toArray 57 (0, 0))), (0, wm W)]) (fun g => ((g.1) ≤ d2.length) ∧ (cFollows d0 d1 d2 = cFollowsAt (g.2.1) (g.2.2) (g.1) (d2.drop (g.1)))) (fun g => d2.length - (g.1)) (0, d0, d1) (⟨by omega, by rfl⟩) ⟨⟨rfl, rfl, rfl, rfl, rfl, rfl, rfl, trivial⟩, fun _ h => h.sub [102, 0]⟩ ?_
  rintro ⟨k, e, nn⟩ ⟨hk, hf⟩
  replace hk : k ≤ d2.length := hk
  replace hf : cFollows d0 d1 d2 = cFollowsAt e nn k (d2.drop k) := hf
  show VC _ _ _ _ _ [(0, Value.int .i64 (e)), (1, Value.int .i64 (nn)), (12, Value.int .i64 (((k : Nat) : Int))), (2, Value.slice A2 (d2.length) (c2)), (6, Value.pointer (some ⟨g1, 0, none⟩)), (10, Value.slice A2 (d2.length) (c2)), (11, Value.int .i64 (((d2.length : Nat) : Int)))] [(102, mone g1 (.cells [Value.int .i64 (0), Value.int .i64 (0)].toArray 57 (0, 0))), (0, wm W)]
  refine VC.rs ?_
  refine VO.y rfl (.lss rfl rfl) ?_
  refine VO.kp [102, 0] [(102, mone g1 (.cells [Value.int .i64 (0), Value.int .i64 (0)].toArray 57 (0, 0))), (0, wm W)] ?_
  refine VO.k8 0 1 2 6 10 11 12 13 ?_
  refine VC.seq ?_
  refine VC.cond rfl (fun hc3 => ?_) (fun hc3 => ?_)
  · -- T
    refine VC.skip ?_
    refine outN ?_
    refine VC.seq ?_
    refine VC.block ?_
    refine VC.rs ?_
    refine VO.mv ?_
    obtain ⟨x4, hx4⟩ : ∃ z_, (d2)[k]? = some z_ := ⟨_, List.getElem?_eq_getElem (by exact fin1_follows_ok)⟩
    obtain ⟨gg4, oo4, ec4, ea4, hce4, hre4⟩ := h2.elem hx4
    cases ea4
    obtain ⟨q4_A2, q4_c2, rfl, q4_0, q4_1, q4_2⟩ := open_Commit (x0 := x4.1) (x1 := x4.2.1) (x2 := x4.2.2) hre4
    simp only [inK] at q4_0
    simp only [inK] at q4_1
    have q4_r2 := Rd.room q4_2
    refine VO.y rfl (.ixI k rfl rfl tsl61 rfl (by exact fin1_follows_ok)) ?_
    refine VO.y rfl (.ldA 0 rfl tk52 rfl hce4) ?_
    refine VO.alloc 106 rfl tz52 (fun g5 => ?_)
    refine VO.as ?_
    refine VO.store (k := 3) (c' := [Value.int .i64 (x4.1), Value.int .i64 (x4.2.1), Value.slice q4_A2 (x4.2.2.length) (q4_c2)]) 106 rfl rfl (.inl tk52) rfl rfl rfl rfl rfl ?_
    refine VO.k10 0 1 2 6 7 8 10 11 12 13 ?_
    refine VC.rs ?_
    refine VO.y rfl (.ldA 106 rfl tk52 rfl (cellsAt_one rfl rfl)) ?_
    refine VO.callN 107 rfl fnOk50 rfl (fun W hW => cCheck_ok_ W (Rd.mono hre4 (hW.at (i := 0) rfl))) (fun v7 m7 hv7 => ?_)
    subst hv7
    have hfa8 := cCheck_range x4
    refine VO.mv ?_
    refine VO.y rfl (.bst (cs := [Value.int .i64 (cCheck x4), Value.int .i64 (((k : Nat) : Int))]) rfl tst57 tz57 rfl) ?_
    refine VO.alloc 110 rfl tz57 (fun g9 => ?_)
    refine VO.store (k := 2) (c' := [Value.int .i64 (cCheck x4), Value.int .i64 (((k : Nat) : Int))]) 110 rfl rfl (.inl tk57) rfl rfl rfl rfl rfl ?_
    refine VO.k11 0 1 2 6 7 8 9 10 11 12 13 ?_
    refine VC.seq ?_
    refine VC.rs ?_
    refine VO.y rfl (.fa rfl tst57 rfl) ?_
    refine VO.y rfl (.ld1 110 rfl tk26 rfl (cellsAt_one rfl rfl)) ?_
    refine VO.y rfl (.eql rfl rfl) ?_
    refine VO.mv ?_
    refine VO.dec (t := 24) rfl (fun hc11 => ?_) (fun hc11 => ?_)
    · -- TT
      refine VO.gy rfl ⟨_, rfl, rfl⟩ (.fa rfl tst52 rfl) ?_
      refine VO.gy rfl ⟨_, rfl, rfl⟩ (.ld1 106 rfl tk3 rfl (cellsAt_one rfl rfl)) ?_
      refine VO.gy rfl ⟨_, rfl, rfl⟩ (.sub rfl rfl rfl ⟨by exact fin1_follows_ok, by exact fin1_follows_ok⟩) ?_
      refine VO.gy rfl ⟨_, rfl, rfl⟩ (.mv rfl) ?_
      refine VO.gy rfl ⟨_, rfl, rfl⟩ (.neq rfl rfl) ?_
      refine VO.gy rfl ⟨_, rfl, rfl⟩ (.mv rfl) ?_
      refine VO.dec (t := 30) rfl (fun hc12 => ?_) (fun hc12 => ?_)
      · -- TTT
        refine VO.gN ?_
        refine VO.gN ?_
        refine VO.gN ?_
        refine VO.gN ?_
        refine VO.gy rfl ⟨_, rfl, rfl⟩ (.pT rfl rfl) ?_
        refine VO.y rfl (.pT rfl rfl) ?_
        refine VO.kp [110, 106, 102, 0] [(110, mone g9 (.cells [Value.int .i64 (cCheck x4), Value.int .i64 (((k : Nat) : Int))].toArray 57 (0, 0))), (106, mone g5 (.cells [Value.int .i64 (x4.1), Value.int .i64 (x4.2.1), Value.slice q4_A2 (x4.2.2.length) (q4_c2)].toArray 52 (0, 0))), (102, mone g1 (.cells [Value.int .i64 (0), Value.int .i64 (0)].toArray 57 (0, 0))), (0, wm W)] ?_
        refine VO.k12 0 1 2 6 7 8 9 10 11 12 13 36 ?_
        refine VC.condT rfl ?_
        refine VC.reg ?_
        refine VO.y rfl (.fa rfl tst57 rfl) ?_
        refine VO.store (k := 1) (c' := [Value.int .i64 (15), Value.int .i64 (((k : Nat) : Int))]) 110 rfl rfl (.inr ⟨tk26, rfl⟩) rfl rfl rfl rfl rfl ?_
        refine VO.k12 0 1 2 6 7 8 9 10 11 12 13 36 ?_
        refine outN ?_
        refine VC.seq ?_
        refine VC.rs ?_
        refine VO.y rfl (.ldA 110 rfl tk57 rfl (cellsAt_one rfl rfl)) ?_
        refine VO.mv ?_
        refine VO.y rfl (.bst (cs := [Value.int .i64 (0), Value.int .i64 (((k : Nat) : Int))]) rfl tst57 tz57 rfl) ?_
        refine VO.y rfl (.stneq (p := 15 = 0 ∧ ((k : Nat) : Int) = ((k : Nat) : Int)) rfl rfl (teq57 15 ((k : Nat) : Int)) (teq57 0 ((k : Nat) : Int)) (by simp [ceq, ba_toList])) ?_
        refine VO.k13 0 1 2 6 7 8 9 10 11 12 13 36 41 ?_
        refine VC.cond rfl (fun hc13 => ?_) (fun hc13 => ?_)
        · -- TTTT
          refine VC.rs ?_
          refine VO.y rfl (.ldA 110 rfl tk57 rfl (cellsAt_one rfl rfl)) ?_
          refine VO.store (k := 2) (c' := [Value.int .i64 (15), Value.int .i64 (((k : Nat) : Int))]) 102 rfl rfl (.inl tk57) rfl rfl rfl rfl rfl ?_
          refine VO.kp [110, 106, 102, 0] [(110, mone g9 (.cells [Value.int .i64 (15), Value.int .i64 (((k : Nat) : Int))].toArray 57 (0, 0))), (106, mone g5 (.cells [Value.int .i64 (x4.1), Value.int .i64 (x4.2.1), Value.slice q4_A2 (x4.2.2.length) (q4_c2)].toArray 52 (0, 0))), (102, mone g1 (.cells [Value.int .i64 (15), Value.int .i64 (((k : Nat) : Int))].toArray 57 (0, 0))), (0, wm W)] ?_
          refine VO.k13 0 1 2 6 7 8 9 10 11 12 13 36 41 ?_
          refine VC.ret ?_
          refine outR ?_
          refine outBR ?_
          refine outR ?_
          refine outR ?_
          refine outBR ?_
          refine outR ?_
          refine ⟨_, _, res_run (rs := [.cell 6 57]) rfl (.agg 102 rfl tk57 rfl ⟨_, _, _, mone_self _ _, Nat.le_of_ble_eq_true rfl, rfl⟩ .nil), fun W_ hI => out_of (l := []) hI [] rfl rfl (mle_refl _) (fun hS_ => ?_)⟩
          dsimp only [packV]
          have he0 : (cFollows d0 d1 d2 : Ty.Den TFault) = (15, ((k : Nat) : Int)) := by first | rfl | (first | (rw [hf, List.drop_of_length_le (by omega)]; rfl) | (rw [hf, follows_bad ‹d2[k]? = some _› (by first | assumption | omega)]) | (rw [hf, follows_order ‹d2[k]? = some _› (by assumption) (by omega)]) | (exfalso; omega))
          refine ⟨[Value.int .i64 (15), Value.int .i64 (((k : Nat) : Int))], ?_, ?_⟩
          rotate_left
          · rw [he0]; exact (Ow.of (m := mnil) rfl (mk_Fault (m := _) 15 ((k : Nat) : Int) (by simp only [inK]; (exact fin1_follows_ok)) (by simp only [inK]; (exact fin1_follows_ok))))
          all_goals (first | rfl | (rfl))
        · -- TTTF
          refine VC.skip ?_
          refine outN ?_
          refine VC.regD _ 5 [(0, true), (1, true), (2, true), (3, true), (4, true)] follows (by kernel_rfl) (fun _ h => h.sub [110, 106, 102, 0]) ?_
          refine VD.y rfl rfl (.inl rfl) (.fa rfl tst52 rfl) ?_
          refine VD.y rfl rfl (.inl rfl) (.ld1 106 rfl tk3 rfl (cellsAt_one rfl rfl)) ?_
          refine VD.y rfl rfl (.inl rfl) (.fa rfl tst52 rfl) ?_
          refine VD.y rfl rfl (.inl rfl) (.ld1 106 rfl tk3 rfl (cellsAt_one rfl rfl)) ?_
          refine VD.y rfl rfl (.inl rfl) (.as rfl) ?_
          refine VD.nil rfl ?_ rfl
          refine VO.as ?_
          refine VO.kp [110, 106, 102, 0] [(110, mone g9 (.cells [Value.int .i64 (15), Value.int .i64 (((k : Nat) : Int))].toArray 57 (0, 0))), (106, mone g5 (.cells [Value.int .i64 (x4.1), Value.int .i64 (x4.2.1), Value.slice q4_A2 (x4.2.2.length) (q4_c2)].toArray 52 (0, 0))), (102, mone g1 (.cells [Value.int .i64 (0), Value.int .i64 (0)].toArray 57 (0, 0))), (0, wm W)] ?_
          refine VO.k13 0 1 2 6 7 8 9 10 11 12 13 36 41 ?_
          refine outBN ?_
          refine outN ?_
          refine VC.reg ?_
          refine VO.y rfl (.add (c := ((k + 1 : Nat) : Int)) rfl rfl (by omega) ⟨by exact fin1_follows_ok, by exact fin1_follows_ok⟩) ?_
          refine VO.mv ?_
          refine VO.k13 0 1 2 6 7 8 9 10 11 12 13 36 41 ?_
          exact outN ⟨⟨k + 1, x4.1, x4.2.1⟩, ⟨by omega, by first | (exfalso; omega) | (rw [hf, follows_step ‹d2[k]? = some _› (by first | assumption | omega) (by omega) (by omega)]; rfl)⟩, by exact fin1_follows_ok, ⟨⟨rfl, rfl, rfl, rfl, rfl, rfl, rfl, trivial⟩, fun _ h => Inv.sub h [102, 0]⟩⟩
      · -- TTF
        refine VO.gy rfl ⟨_, rfl, rfl⟩ (.fa rfl tst52 rfl) ?_
        refine VO.gy rfl ⟨_, rfl, rfl⟩ (.ld1 106 rfl tk3 rfl (cellsAt_one rfl rfl)) ?_
        refine VO.gy rfl ⟨_, rfl, rfl⟩ (.mv rfl) ?_
        refine VO.gy rfl ⟨_, rfl, rfl⟩ (.lss rfl rfl) ?_
        refine VO.gy rfl ⟨_, rfl, rfl⟩ (.pF rfl rfl) ?_
        refine VO.y rfl (.pT rfl rfl) ?_
        refine VO.kp [110, 106, 102, 0] [(110, mone g9 (.cells [Value.int .i64 (cCheck x4), Value.int .i64 (((k : Nat) : Int))].toArray 57 (0, 0))), (106, mone g5 (.cells [Value.int .i64 (x4.1), Value.int .i64 (x4.2.1), Value.slice q4_A2 (x4.2.2.length) (q4_c2)].toArray 52 (0, 0))), (102, mone g1 (.cells [Value.int .i64 (0), Value.int .i64 (0)].toArray 57 (0, 0))), (0, wm W)] ?_
        refine VO.k12 0 1 2 6 7 8 9 10 11 12 13 36 ?_
        refine VC.cond rfl (fun hc14 => ?_) (fun hc14 => ?_)
        · -- TTFT
          refine VC.reg ?_
          refine VO.y rfl (.fa rfl tst57 rfl) ?_
          refine VO.store (k := 1) (c' := [Value.int .i64 (15), Value.int .i64 (((k : Nat) : Int))]) 110 rfl rfl (.inr ⟨tk26, rfl⟩) rfl rfl rfl rfl rfl ?_
          refine VO.k12 0 1 2 6 7 8 9 10 11 12 13 36 ?_
          refine outN ?_
          refine VC.seq ?_
          refine VC.rs ?_
          refine VO.y rfl (.ldA 110 rfl tk57 rfl (cellsAt_one rfl rfl)) ?_
          refine VO.mv ?_
          refine VO.y rfl (.bst (cs := [Value.int .i64 (0), Value.int .i64 (((k : Nat) : Int))]) rfl tst57 tz57 rfl) ?_
          refine VO.y rfl (.stneq (p := 15 = 0 ∧ ((k : Nat) : Int) = ((k : Nat) : Int)) rfl rfl (teq57 15 ((k : Nat) : Int)) (teq57 0 ((k : Nat) : Int)) (by simp [ceq, ba_toList])) ?_
          refine VO.k13 0 1 2 6 7 8 9 10 11 12 13 36 41 ?_
          refine VC.cond rfl (fun hc15 => ?_) (fun hc15 => ?_)
          · -- TTFTT
            refine VC.rs ?_
            refine VO.y rfl (.ldA 110 rfl tk57 rfl (cellsAt_one rfl rfl)) ?_
            refine VO.store (k := 2) (c' := [Value.int .i64 (15), Value.int .i64 (((k : Nat) : Int))]) 102 rfl rfl (.inl tk57) rfl rfl rfl rfl rfl ?_
            refine VO.kp [110, 106, 102, 0] [(110, mone g9 (.cells [Value.int .i64 (15), Value.int .i64 (((k : Nat) : Int))].toArray 57 (0, 0))), (106, mone g5 (.cells [Value.int .i64 (x4.1), Value.int .i64 (x4.2.1), Value.slice q4_A2 (x4.2.2.length) (q4_c2)].toArray 52 (0, 0))), (102, mone g1 (.cells [Value.int .i64 (15), Value.int .i64 (((k : Nat) : Int))].toArray 57 (0, 0))), (0, wm W)] ?_
            refine VO.k13 0 1 2 6 7 8 9 10 11 12 13 36 41 ?_
            refine VC.ret ?_
            refine outR ?_
            refine outBR ?_
            refine outR ?_
            refine outR ?_
            refine outBR ?_
            refine outR ?_
            refine ⟨_, _, res_run (rs := [.cell 6 57]) rfl (.agg 102 rfl tk57 rfl ⟨_, _, _, mone_self _ _, Nat.le_of_ble_eq_true rfl, rfl⟩ .nil), fun W_ hI => out_of (l := []) hI [] rfl rfl (mle_refl _) (fun hS_ => ?_)⟩
            dsimp only [packV]
            have he0 : (cFollows d0 d1 d2 : Ty.Den TFault) = (15, ((k : Nat) : Int)) := by first | rfl | (first | (rw [hf, List.drop_of_length_le (by omega)]; rfl) | (rw [hf, follows_bad ‹d2[k]? = some _› (by first | assumption | omega)]) | (rw [hf, follows_order ‹d2[k]? = some _› (by assumption) (by omega)]) | (exfalso; omega))
            refine ⟨[Value.int .i64 (15), Value.int .i64 (((k : Nat) : Int))], ?_, ?_⟩
            rotate_left
            · rw [he0]; exact (Ow.of (m := mnil) rfl (mk_Fault (m := _) 15 ((k : Nat) : Int) (by simp only [inK]; (exact fin1_follows_ok)) (by simp only [inK]; (exact fin1_follows_ok))))
            all_goals (first | rfl | (rfl))
          · -- TTFTF
            refine VC.skip ?_
            refine outN ?_
            refine VC.regD _ 5 [(0, true), (1, true), (2, true), (3, true), (4, true)] follows (by kernel_rfl) (fun _ h => h.sub [110, 106, 102, 0]) ?_
            refine VD.y rfl rfl (.inl rfl) (.fa rfl tst52 rfl) ?_
            refine VD.y rfl rfl (.inl rfl) (.ld1 106 rfl tk3 rfl (cellsAt_one rfl rfl)) ?_
            refine VD.y rfl rfl (.inl rfl) (.fa rfl tst52 rfl) ?_
            refine VD.y rfl rfl (.inl rfl) (.ld1 106 rfl tk3 rfl (cellsAt_one rfl rfl)) ?_
            refine VD.y rfl rfl (.inl rfl) (.as rfl) ?_
            refine VD.nil rfl ?_ rfl
            refine VO.as ?_
            refine VO.kp [110, 106, 102, 0] [(110, mone g9 (.cells [Value.int .i64 (15), Value.int .i64 (((k : Nat) : Int))].toArray 57 (0, 0))), (106, mone g5 (.cells [Value.int .i64 (x4.1), Value.int .i64 (x4.2.1), Value.slice q4_A2 (x4.2.2.length) (q4_c2)].toArray 52 (0, 0))), (102, mone g1 (.cells [Value.int .i64 (0), Value.int .i64 (0)].toArray 57 (0, 0))), (0, wm W)] ?_
            refine VO.k13 0 1 2 6 7 8 9 10 11 12 13 36 41 ?_
            refine outBN ?_
            refine outN ?_
            refine VC.reg ?_
            refine VO.y rfl (.add (c := ((k + 1 : Nat) : Int)) rfl rfl (by omega) ⟨by exact fin1_follows_ok, by exact fin1_follows_ok⟩) ?_
            refine VO.mv ?_
            refine VO.k13 0 1 2 6 7 8 9 10 11 12 13 36 41 ?_
            exact outN ⟨⟨k + 1, x4.1, x4.2.1⟩, ⟨by omega, by first | (exfalso; omega) | (rw [hf, follows_step ‹d2[k]? = some _› (by first | assumption | omega) (by omega) (by omega)]; rfl)⟩, by exact fin1_follows_ok, ⟨⟨rfl, rfl, rfl, rfl, rfl, rfl, rfl, trivial⟩, fun _ h => Inv.sub h [102, 0]⟩⟩
        · -- TTFF
          refine VC.skip ?_
          refine outN ?_
          refine VC.seq ?_
          refine VC.rs ?_
          refine VO.y rfl (.ldA 110 rfl tk57 rfl (cellsAt_one rfl rfl)) ?_
          refine VO.mv ?_
          refine VO.y rfl (.bst (cs := [Value.int .i64 (0), Value.int .i64 (((k : Nat) : Int))]) rfl tst57 tz57 rfl) ?_
          refine VO.y rfl (.stneq (p := (cCheck x4) = 0 ∧ ((k : Nat) : Int) = ((k : Nat) : Int)) rfl rfl (teq57 (cCheck x4) ((k : Nat) : Int)) (teq57 0 ((k : Nat) : Int)) (by simp [ceq, ba_toList])) ?_
          refine VO.k13 0 1 2 6 7 8 9 10 11 12 13 36 41 ?_
          refine VC.cond rfl (fun hc16 => ?_) (fun hc16 => ?_)
          · -- TTFFT
            refine VC.rs ?_
            refine VO.y rfl (.ldA 110 rfl tk57 rfl (cellsAt_one rfl rfl)) ?_
            refine VO.store (k := 2) (c' := [Value.int .i64 (cCheck x4), Value.int .i64 (((k : Nat) : Int))]) 102 rfl rfl (.inl tk57) rfl rfl rfl rfl rfl ?_
            refine VO.k13 0 1 2 6 7 8 9 10 11 12 13 36 41 ?_
            refine VC.ret ?_
            refine outR ?_
            refine outBR ?_
            refine outR ?_
            refine outR ?_
            refine outBR ?_
            refine outR ?_
            refine ⟨_, _, res_run (rs := [.cell 6 57]) rfl (.agg 102 rfl tk57 rfl ⟨_, _, _, mone_self _ _, Nat.le_of_ble_eq_true rfl, rfl⟩ .nil), fun W_ hI => out_of (l := []) hI [] rfl rfl (mle_refl _) (fun hS_ => ?_)⟩
            dsimp only [packV]
            have he0 : (cFollows d0 d1 d2 : Ty.Den TFault) = (cCheck x4, ((k : Nat) : Int)) := by first | rfl | (first | (rw [hf, List.drop_of_length_le (by omega)]; rfl) | (rw [hf, follows_bad ‹d2[k]? = some _› (by first | assumption | omega)]) | (rw [hf, follows_order ‹d2[k]? = some _› (by assumption) (by omega)]) | (exfalso; omega))
            refine ⟨[Value.int .i64 (cCheck x4), Value.int .i64 (((k : Nat) : Int))], ?_, ?_⟩
            rotate_left
            · rw [he0]; exact (Ow.of (m := mnil) rfl (mk_Fault (m := _) (cCheck x4) ((k : Nat) : Int) (by simp only [inK]; (exact fin1_follows_ok)) (by simp only [inK]; (exact fin1_follows_ok))))
            all_goals (first | rfl | (rfl))
          · -- TTFFF
            refine VC.skip ?_
            refine outN ?_
            refine VC.regD _ 5 [(0, true), (1, true), (2, true), (3, true), (4, true)] follows (by kernel_rfl) (fun _ h => h.sub [110, 106, 102, 0]) ?_
            refine VD.y rfl rfl (.inl rfl) (.fa rfl tst52 rfl) ?_
            refine VD.y rfl rfl (.inl rfl) (.ld1 106 rfl tk3 rfl (cellsAt_one rfl rfl)) ?_
            refine VD.y rfl rfl (.inl rfl) (.fa rfl tst52 rfl) ?_
            refine VD.y rfl rfl (.inl rfl) (.ld1 106 rfl tk3 rfl (cellsAt_one rfl rfl)) ?_
            refine VD.y rfl rfl (.inl rfl) (.as rfl) ?_
            refine VD.nil rfl ?_ rfl
            refine VO.as ?_
            refine VO.k13 0 1 2 6 7 8 9 10 11 12 13 36 41 ?_
            refine outBN ?_
            refine outN ?_
            refine VC.reg ?_
            refine VO.y rfl (.add (c := ((k + 1 : Nat) : Int)) rfl rfl (by omega) ⟨by exact fin1_follows_ok, by exact fin1_follows_ok⟩) ?_
            refine VO.mv ?_
            refine VO.kp [110, 106, 102, 0] [(110, mone g9 (.cells [Value.int .i64 (cCheck x4), Value.int .i64 (((k : Nat) : Int))].toArray 57 (0, 0))), (106, mone g5 (.cells [Value.int .i64 (x4.1), Value.int .i64 (x4.2.1), Value.slice q4_A2 (x4.2.2.length) (q4_c2)].toArray 52 (0, 0))), (102, mone g1 (.cells [Value.int .i64 (0), Value.int .i64 (0)].toArray 57 (0, 0))), (0, wm W)] ?_
            refine VO.k13 0 1 2 6 7 8 9 10 11 12 13 36 41 ?_
            exact outN ⟨⟨k + 1, x4.1, x4.2.1⟩, ⟨by omega, by first | (exfalso; omega) | (rw [hf, follows_step ‹d2[k]? = some _› (by first | assumption | omega) (by omega) (by omega)]; rfl)⟩, by exact fin1_follows_ok, ⟨⟨rfl, rfl, rfl, rfl, rfl, rfl, rfl, trivial⟩, fun _ h => Inv.sub h [102, 0]⟩⟩
    · -- TF
      refine VO.gN ?_
      refine VO.gN ?_
      refine VO.gN ?_
      refine VO.gN ?_
      refine VO.gN ?_
      refine VO.gN ?_
      refine VO.gn rfl (.inr ⟨_, rfl, rfl⟩) ?_
      refine VO.gn rfl (.inr ⟨_, rfl, rfl⟩) ?_
      refine VO.gn rfl (.inr ⟨_, rfl, rfl⟩) ?_
      refine VO.gn rfl (.inr ⟨_, rfl, rfl⟩) ?_
      refine VO.gN ?_
      refine VO.y rfl (.pF rfl rfl) ?_
      refine VO.kp [110, 106, 102, 0] [(110, mone g9 (.cells [Value.int .i64 (cCheck x4), Value.int .i64 (((k : Nat) : Int))].toArray 57 (0, 0))), (106, mone g5 (.cells [Value.int .i64 (x4.1), Value.int .i64 (x4.2.1), Value.slice q4_A2 (x4.2.2.length) (q4_c2)].toArray 52 (0, 0))), (102, mone g1 (.cells [Value.int .i64 (0), Value.int .i64 (0)].toArray 57 (0, 0))), (0, wm W)] ?_
      refine VO.k12 0 1 2 6 7 8 9 10 11 12 13 36 ?_
      refine VC.condF rfl ?_
      refine VC.skip ?_
      refine outN ?_
      refine VC.seq ?_
      refine VC.rs ?_
      refine VO.y rfl (.ldA 110 rfl tk57 rfl (cellsAt_one rfl rfl)) ?_
      refine VO.mv ?_
      refine VO.y rfl (.bst (cs := [Value.int .i64 (0), Value.int .i64 (((k : Nat) : Int))]) rfl tst57 tz57 rfl) ?_
      refine VO.y rfl (.stneq (p := (cCheck x4) = 0 ∧ ((k : Nat) : Int) = ((k : Nat) : Int)) rfl rfl (teq57 (cCheck x4) ((k : Nat) : Int)) (teq57 0 ((k : Nat) : Int)) (by simp [ceq, ba_toList])) ?_
      refine VO.k13 0 1 2 6 7 8 9 10 11 12 13 36 41 ?_
      refine VC.cond rfl (fun hc17 => ?_) (fun hc17 => ?_)
      · -- TFT
        refine VC.rs ?_
        refine VO.y rfl (.ldA 110 rfl tk57 rfl (cellsAt_one rfl rfl)) ?_
        refine VO.store (k := 2) (c' := [Value.int .i64 (cCheck x4), Value.int .i64 (((k : Nat) : Int))]) 102 rfl rfl (.inl tk57) rfl rfl rfl rfl rfl ?_
        refine VO.k13 0 1 2 6 7 8 9 10 11 12 13 36 41 ?_
        refine VC.ret ?_
        refine outR ?_
        refine outBR ?_
        refine outR ?_
        refine outR ?_
        refine outBR ?_
        refine outR ?_
        refine ⟨_, _, res_run (rs := [.cell 6 57]) rfl (.agg 102 rfl tk57 rfl ⟨_, _, _, mone_self _ _, Nat.le_of_ble_eq_true rfl, rfl⟩ .nil), fun W_ hI => out_of (l := []) hI [] rfl rfl (mle_refl _) (fun hS_ => ?_)⟩
        dsimp only [packV]
        have he0 : (cFollows d0 d1 d2 : Ty.Den TFault) = (cCheck x4, ((k : Nat) : Int)) := by first | rfl | (first | (rw [hf, List.drop_of_length_le (by omega)]; rfl) | (rw [hf, follows_bad ‹d2[k]? = some _› (by first | assumption | omega)]) | (rw [hf, follows_order ‹d2[k]? = some _› (by assumption) (by omega)]) | (exfalso; omega))
        refine ⟨[Value.int .i64 (cCheck x4), Value.int .i64 (((k : Nat) : Int))], ?_, ?_⟩
        rotate_left
        · rw [he0]; exact (Ow.of (m := mnil) rfl (mk_Fault (m := _) (cCheck x4) ((k : Nat) : Int) (by simp only [inK]; (exact fin1_follows_ok)) (by simp only [inK]; (exact fin1_follows_ok))))
        all_goals (first | rfl | (rfl))
      · -- TFF
        refine VC.skip ?_
        refine outN ?_
        refine VC.regD _ 5 [(0, true), (1, true), (2, true), (3, true), (4, true)] follows (by kernel_rfl) (fun _ h => h.sub [110, 106, 102, 0]) ?_
        refine VD.y rfl rfl (.inl rfl) (.fa rfl tst52 rfl) ?_
        refine VD.y rfl rfl (.inl rfl) (.ld1 106 rfl tk3 rfl (cellsAt_one rfl rfl)) ?_
        refine VD.y rfl rfl (.inl rfl) (.fa rfl tst52 rfl) ?_
        refine VD.y rfl rfl (.inl rfl) (.ld1 106 rfl tk3 rfl (cellsAt_one rfl rfl)) ?_
        refine VD.y rfl rfl (.inl rfl) (.as rfl) ?_
        refine VD.nil rfl ?_ rfl
        refine VO.as ?_
        refine VO.k13 0 1 2 6 7 8 9 10 11 12 13 36 41 ?_
        refine outBN ?_
        refine outN ?_
        refine VC.reg ?_
        refine VO.y rfl (.add (c := ((k + 1 : Nat) : Int)) rfl rfl (by omega) ⟨by exact fin1_follows_ok, by exact fin1_follows_ok⟩) ?_
        refine VO.mv ?_
        refine VO.kp [110, 106, 102, 0] [(110, mone g9 (.cells [Value.int .i64 (cCheck x4), Value.int .i64 (((k : Nat) : Int))].toArray 57 (0, 0))), (106, mone g5 (.cells [Value.int .i64 (x4.1), Value.int .i64 (x4.2.1), Value.slice q4_A2 (x4.2.2.length) (q4_c2)].toArray 52 (0, 0))), (102, mone g1 (.cells [Value.int .i64 (0), Value.int .i64 (0)].toArray 57 (0, 0))), (0, wm W)] ?_
        refine VO.k13 0 1 2 6 7 8 9 10 11 12 13 36 41 ?_
        exact outN ⟨⟨k + 1, x4.1, x4.2.1⟩, ⟨by omega, by first | (exfalso; omega) | (rw [hf, follows_step ‹d2[k]? = some _› (by first | assumption | omega) (by omega) (by omega)]; rfl)⟩, by exact fin1_follows_ok, ⟨⟨rfl, rfl, rfl, rfl, rfl, rfl, rfl, trivial⟩, fun _ h => Inv.sub h [102, 0]⟩⟩
  · -- F
    refine VC.exit ?_
    refine outE ?_
    refine outE ?_
    refine outBB ?_
    refine outN ?_
    refine VC.rs ?_
    refine VO.y rfl (.bst (cs := [Value.int .i64 (0), Value.int .i64 (0)]) rfl tst57 tz57 rfl) ?_
    refine VO.store (k := 2) (c' := [Value.int .i64 (0), Value.int .i64 (0)]) 102 rfl rfl (.inl tk57) rfl rfl rfl rfl rfl ?_
    refine VO.k8 0 1 2 6 10 11 12 13 ?_
    refine VC.ret ?_
    refine ⟨_, _, res_run (rs := [.cell 6 57]) rfl (.agg 102 rfl tk57 rfl ⟨_, _, _, mone_self _ _, Nat.le_of_ble_eq_true rfl, rfl⟩ .nil), fun W_ hI => out_of (l := []) hI [] rfl rfl (mle_refl _) (fun hS_ => ?_)⟩
    dsimp only [packV]
    have he0 : (cFollows d0 d1 d2 : Ty.Den TFault) = (0, 0) := by first | rfl | (first | (rw [hf, List.drop_of_length_le (by omega)]; rfl) | (rw [hf, follows_bad ‹d2[k]? = some _› (by first | assumption | omega)]) | (rw [hf, follows_order ‹d2[k]? = some _› (by assumption) (by omega)]) | (exfalso; omega))
    refine ⟨[Value.int .i64 (0), Value.int .i64 (0)], ?_, ?_⟩
    rotate_left
    · rw [he0]; exact (Ow.of (m := mnil) rfl (mk_Fault (m := _) 0 0 (by simp only [inK]; (exact fin1_follows_ok)) (by simp only [inK]; (exact fin1_follows_ok))))
    all_goals (first | rfl | (rfl))
theorem clone_ok (W : World) {v0 : Value} {d0 : List DOp} (h0 : Rd (.sl TOp) (wm W) [v0] d0) (e0 : d0.length ≤ 3518437208800) : CallR Try.prog 111 [v0] W (mnil) (fun v m' => ∃ (s0 : Value), v = s0 ∧ Ow (.sl TOp) m' [s0] (d0)) := by
  obtain ⟨A0, c0, rfl, l0, k0⟩ := h0.slice
  simp only [maxLen] at k0
  refine CallR.ofA (n := 8) Try.func111 rfl rfl rfl ?_
  refine VC.rs ?_
  refine VO.as ?_
  refine VO.k2 0 2 ?_
  refine VC.seq ?_
  refine VC.rs ?_
  refine VO.mv ?_
  refine VO.y rfl (.snil rfl rfl Try.underlying22) ?_
  refine VO.k3 0 2 4 ?_
  refine VC.cond rfl (fun hc1 => ?_) (fun hc1 => ?_)
  · -- T
    refine VC.rs ?_
    refine VO.as ?_
    refine VO.kp [0] [(0, wm W)] ?_
    refine VO.k3 0 2 4 ?_
    refine VC.ret ?_
    refine outR ?_
    refine ⟨_, _, res_run (rs := [.tmp 2]) rfl (.tmp rfl .nil), fun W_ hI => out_of (l := []) hI [] rfl rfl (mle_refl _) (fun hS_ => ?_)⟩
    dsimp only [packV]
    have he0 : (d0 : Ty.Den (.sl TOp)) = [] := by first | rfl | (exact clone_nil h0 ‹_ = none›)
    refine ⟨Value.slice none (0) (0), ?_, ?_⟩
    rotate_left
    · rw [he0]; exact (Ow.nil _ _)
    all_goals (first | rfl | (simp [*]; done))
  · -- F
    refine VC.skip ?_
    refine outN ?_
    refine VC.rs ?_
    refine VO.bsl (cs := []) 103 rfl rfl tsl22 tz49 rfl rfl (fun g2 => ?_)
    refine VO.mv ?_
    have ho5 : OwnL TOp (mone g2 (.cells [].toArray 49 (0, 0))) mnil (Value.slice (some ⟨g2, 0, none⟩) (0) (0)) [] := OwnL.lit 0 All2c.nil rfl rfl
    obtain ⟨mo4, cs4, hM4, hA4, hC4⟩ := ho5
    obtain ⟨all4, hS4, hR4⟩ := Rd.srcI (P := Try.prog) (h0) Try.underlying22
    refine VO.app 103 rfl rfl rfl tsl22 tz49 rfl rfl hM4 hA4 (hS4 _ 0 rfl) hR4.nice bdm bd (by decide) (fun v4 m4 hN4 => ?_)
    have ho4 : OwnL TOp m4 mnil v4 (d0) := OwnL.more hC4 hN4 (All2c.mono hR4 fun _ _ h => Rd.flat rfl h _)
    obtain ⟨A4, c4, rfl, l4, k4⟩ := ho4.slice
    simp only [maxLen] at k4
    refine VO.as ?_
    refine VO.kp [103, 0] [(103, m4), (0, wm W)] ?_
    refine VO.k3 0 2 4 ?_
    refine VC.ret ?_
    refine ⟨_, _, res_run (rs := [.tmp 2]) rfl (.tmp rfl .nil), fun W_ hI => out_of (l := [m4]) hI [103] rfl rfl (mle_refl _) (fun hS_ => ?_)⟩
    dsimp only [packV]
    have he0 : (d0 : Ty.Den (.sl TOp)) = d0 := by first | rfl | (exact clone_nil h0 ‹_ = none›)
    refine ⟨Value.slice A4 ((d0).length) (c4), ?_, ?_⟩
    rotate_left
    · rw [he0]; exact (Ow.up (OwnL.ow ho4 rfl) (hS_.1 _ (.head _)))
    all_goals (first | rfl | (simp [*]; done))
theorem cCopy_ok (W : World) {v0 : List Value} {d0 : DCommit} (h0 : Rd TCommit (wm W) v0 d0) (e0 : d0.2.2.length ≤ 3518437208800) : CallR Try.prog 60 [.agg v0.toArray] W (mnil) (fun v m' => ∃ (s0 : List Value), v = .agg s0.toArray ∧ Ow TCommit m' s0 (d0)) := by
  obtain ⟨p0_A2, p0_c2, rfl, p0_0, p0_1, p0_2⟩ := open_Commit (x0 := d0.1) (x1 := d0.2.1) (x2 := d0.2.2) h0
  simp only [inK] at p0_0
  simp only [inK] at p0_1
  have p0_r2 := Rd.room p0_2
  refine CallR.ofA (n := 8) Try.func60 rfl rfl rfl ?_
  refine VC.rs ?_
  refine VO.box (cs := [Value.int .i64 (d0.1), Value.int .i64 (d0.2.1), Value.slice p0_A2 (d0.2.2.length) (p0_c2)]) 102 rfl rfl rfl (fun g1 => ?_)
  refine VO.alloc 104 rfl tz52 (fun g3 => ?_)
  refine VO.k3 0 1 2 ?_
  refine VC.rs ?_
  refine VO.y rfl (.fa rfl tst52 rfl) ?_
  refine VO.y rfl (.ld1 102 rfl tk22 rfl (cellsAt_one rfl rfl)) ?_
  refine VO.callN 105 rfl fnOk111 rfl (fun W hW => clone_ok W (Rd.mono p0_2 (hW.at (i := 0) rfl)) bd) (fun v5 m5 hv5 => ?_)
  obtain ⟨s5_0, rfl, f5_0⟩ := hv5
  obtain ⟨A5_0, c5_0, eq5_0, l5_0, k5_0⟩ := f5_0.slice
  subst eq5_0
  simp only [maxLen] at k5_0
  refine VO.y rfl (.fa rfl tst52 rfl) ?_
  refine VO.store (k := 1) (c' := [Value.int .i64 (d0.1), Value.int .i64 (d0.2.1), Value.slice A5_0 (d0.2.2.length) (c5_0)]) 102 rfl rfl (.inr ⟨tk22, rfl⟩) rfl rfl rfl rfl rfl ?_
  refine VO.k3 0 1 2 ?_
  refine VC.rs ?_
  refine VO.y rfl (.ldA 102 rfl tk52 rfl (cellsAt_one rfl rfl)) ?_
  refine VO.store (k := 3) (c' := [Value.int .i64 (d0.1), Value.int .i64 (d0.2.1), Value.slice A5_0 (d0.2.2.length) (c5_0)]) 104 rfl rfl (.inl tk52) rfl rfl rfl rfl rfl ?_
  refine VO.kp [105, 104, 102, 0] [(105, m5), (104, mone g3 (.cells [Value.int .i64 (d0.1), Value.int .i64 (d0.2.1), Value.slice A5_0 (d0.2.2.length) (c5_0)].toArray 52 (0, 0))), (102, mone g1 (.cells [Value.int .i64 (d0.1), Value.int .i64 (d0.2.1), Value.slice A5_0 (d0.2.2.length) (c5_0)].toArray 52 (0, 0))), (0, wm W)] ?_
  refine VO.k3 0 1 2 ?_
  refine VC.ret ?_
  refine ⟨_, _, res_run (rs := [.cell 2 52]) rfl (.agg 104 rfl tk52 rfl ⟨_, _, _, mone_self _ _, Nat.le_of_ble_eq_true rfl, rfl⟩ .nil), fun W_ hI => out_of (l := [m5]) hI [105] rfl rfl (mle_refl _) (fun hS_ => ?_)⟩
  dsimp only [packV]
  have he0 : (d0 : Ty.Den TCommit) = d0 := by first | rfl | (simp [*]; done)
  refine ⟨[Value.int .i64 (d0.1), Value.int .i64 (d0.2.1), Value.slice A5_0 (d0.2.2.length) (c5_0)], ?_, ?_⟩
  rotate_left
  · rw [he0]; exact (show Ow TCommit _ _ d0 from (mkO_Commit d0.1 d0.2.1 d0.2.2 hS_ bdk bdk (OwnL.ow (Ow.ownl f5_0 rfl mnil) rfl)))
  all_goals (first | rfl | (simp [*]; done))
end
section
set_option linter.unusedVariables false
set_option linter.unusedSimpArgs false
set_option maxRecDepth 4000
theorem fnOk113 : fnOk Try.prog 113 = true := by kernel_rfl
theorem fnOk49 : fnOk Try.prog 49 = true := by kernel_rfl
theorem fnOk69 : fnOk Try.prog 69 = true := by kernel_rfl
theorem tk61 : tk Try.prog 61 = some none := by kernel_rfl
theorem tk69 : tk Try.prog 69 = some none := by kernel_rfl
theorem tk70 : tk Try.prog 70 = some none := by kernel_rfl
theorem SameStarts_ok (W : World) {v0 : Value} {d0 : List DStart} (h0 : Rd (.sl TStart) (wm W) [v0] d0) {v1 : Value} {d1 : List DStart} (h1 : Rd (.sl TStart) (wm W) [v1] d1) : CallR Try.prog 113 [v0, v1] W (mnil) (fun v m' => v = .bool (decide (d0 = d1))) := by
  obtain ⟨A0, c0, rfl, l0, k0⟩ := h0.slice
  simp only [maxLen] at k0
  obtain ⟨A1, c1, rfl, l1, k1⟩ := h1.slice
  simp only [maxLen] at k1
  refine CallR.ofA (n := 41) Try.func113 rfl rfl rfl ?_
  refine VC.rs ?_
  refine VO.as ?_
  refine VO.k3 0 1 4 ?_
  refine VC.seq ?_
  refine VC.rs ?_
  refine VO.mv ?_
  refine VO.y rfl (.lenS rfl tsl70) ?_
  refine VO.mv ?_
  refine VO.y rfl (.lenS rfl tsl70) ?_
  refine VO.y rfl (.neq rfl rfl) ?_
  refine VO.k4 0 1 4 10 ?_
  refine VC.cond rfl (fun hc1 => ?_) (fun hc1 => ?_)
  · -- T
    refine VC.rs ?_
    refine VO.as ?_
    refine VO.kp [0] [(0, wm W)] ?_
    refine VO.k4 0 1 4 10 ?_
    refine VC.ret ?_
    refine outR ?_
    refine ⟨_, _, res_run (rs := [.tmp 4]) rfl (.tmp rfl .nil), fun W_ hI => out_of (l := []) hI [] rfl rfl (mle_refl _) (fun hS_ => ?_)⟩
    dsimp only [packV]
    all_goals (first | rfl | (simp [len_ne hc1]))
  · -- F
    refine VC.skip ?_
    refine outN ?_
    refine VC.seq ?_
    refine VC.rs ?_
    refine VO.as ?_
    refine VO.kp [0] [(0, wm W)] ?_
    refine VO.k5 0 1 4 5 10 ?_
    refine VC.block ?_
    refine VC.loop (G := Nat) (fun k => [(5, Value.int .i64 (((k : Nat) : Int))), (0, Value.slice A0 (d0.length) (c0)), (1, Value.slice A1 (d1.length) (c1)), (10, Value.bool (decide (¬ ((d0.length : Nat) : Int) = ((d1.length : Nat) : Int))))]) (fun k => [(0, wm W)]) (fun k => (k ≤ d0.length) ∧ (d0.take k = d1.take k)) (fun k => d0.length - k) 0 (⟨by omega, by rfl⟩) ⟨⟨rfl, rfl, rfl, rfl, trivial⟩, fun _ h => h.sub [0]⟩ ?_
    rintro k ⟨hk, ht⟩
    refine VC.seq ?_
    refine VC.rs ?_
    refine VO.mv ?_
    refine VO.mv ?_
    refine VO.y rfl (.lenS rfl tsl70) ?_
    refine VO.y rfl (.lss rfl rfl) ?_
    refine VO.k5 0 1 5 10 14 ?_
    refine VC.cond rfl (fun hc2 => ?_) (fun hc2 => ?_)
    · -- FT
      refine VC.skip ?_
      refine outN ?_
      refine VC.seq ?_
      refine VC.block ?_
      refine VC.seq ?_
      refine VC.regD _ 22 [(0, true), (1, true), (2, true), (3, true), (4, true), (5, true), (6, true), (7, true), (8, true), (9, true), (10, true), (11, true), (12, true), (13, true), (14, true), (15, true), (16, true), (17, true), (18, true), (19, true), (20, true), (21, true)] follows (by kernel_rfl) (fun _ h => h.sub [0]) ?_
      refine VD.y rfl rfl (.inl rfl) (.mv rfl) ?_
      refine VD.y rfl rfl (.inl rfl) (.mv rfl) ?_
      obtain ⟨x3, hx3⟩ : ∃ z_, (d0)[k]? = some z_ := ⟨_, List.getElem?_eq_getElem bd⟩
      obtain ⟨gg3, oo3, ec3, ea3, hce3, hre3⟩ := h0.elem hx3
      cases ea3
      obtain ⟨rfl, q3_0, q3_1⟩ := open_Start (x0 := x3.1) (x1 := x3.2) hre3
      simp only [inK] at q3_0
      simp only [inK] at q3_1
      refine VD.y rfl rfl (.inl rfl) (.ixI k rfl rfl tsl70 rfl bd) ?_
      refine VD.y rfl rfl (.inl rfl) (.fa rfl tst90 rfl) ?_
      refine VD.y rfl rfl (.inl rfl) (.ld1 0 rfl tk3 rfl (hce3.at1 (j := 0) rfl)) ?_
      refine VD.y rfl rfl (.inl rfl) (.mv rfl) ?_
      refine VD.y rfl rfl (.inl rfl) (.mv rfl) ?_
      obtain ⟨x4, hx4⟩ : ∃ z_, (d1)[k]? = some z_ := ⟨_, List.getElem?_eq_getElem bd⟩
      obtain ⟨gg4, oo4, ec4, ea4, hce4, hre4⟩ := h1.elem hx4
      cases ea4
      obtain ⟨rfl, q4_0, q4_1⟩ := open_Start (x0 := x4.1) (x1 := x4.2) hre4
      simp only [inK] at q4_0
      simp only [inK] at q4_1
      refine VD.y rfl rfl (.inl rfl) (.ixI k rfl rfl tsl70 rfl bd) ?_
      refine VD.y rfl rfl (.inl rfl) (.fa rfl tst90 rfl) ?_
      refine VD.y rfl rfl (.inl rfl) (.ld1 0 rfl tk3 rfl (hce4.at1 (j := 0) rfl)) ?_
      refine VD.y rfl rfl (.inl rfl) (.neq rfl rfl) ?_
      refine VD.y rfl rfl (.inl rfl) (.mv rfl) ?_
      refine VD.dec (s := 28) rfl (fun hc5 => ?_) (fun hc5 => ?_)
      · -- FTT
        refine VD.gn rfl rfl (.inl ⟨_, rfl, rfl⟩) ?_
        refine VD.gn rfl rfl (.inl ⟨_, rfl, rfl⟩) ?_
        refine VD.gn rfl rfl (.inl ⟨_, rfl, rfl⟩) ?_
        refine VD.gn rfl rfl (.inl ⟨_, rfl, rfl⟩) ?_
        refine VD.gn rfl rfl (.inl ⟨_, rfl, rfl⟩) ?_
        refine VD.gn rfl rfl (.inl ⟨_, rfl, rfl⟩) ?_
        refine VD.gn rfl rfl (.inl ⟨_, rfl, rfl⟩) ?_
        refine VD.gn rfl rfl (.inl ⟨_, rfl, rfl⟩) ?_
        refine VD.gn rfl rfl (.inl ⟨_, rfl, rfl⟩) ?_
        refine VD.gn rfl rfl (.inl ⟨_, rfl, rfl⟩) ?_
        refine VD.nil rfl ?_ rfl
        refine VO.gN ?_
        refine VO.y rfl (.pT rfl rfl) ?_
        refine VO.k6 0 1 5 10 14 40 ?_
        refine outN ?_
        refine VC.condT rfl ?_
        refine VC.rs ?_
        refine VO.as ?_
        refine VO.kp [0] [(0, wm W)] ?_
        refine VO.k7 0 1 4 5 10 14 40 ?_
        refine VC.ret ?_
        refine outBR ?_
        refine outR ?_
        refine outR ?_
        refine outBR ?_
        refine outR ?_
        refine ⟨_, _, res_run (rs := [.tmp 4]) rfl (.tmp rfl .nil), fun W_ hI => out_of (l := []) hI [] rfl rfl (mle_refl _) (fun hS_ => ?_)⟩
        dsimp only [packV]
        all_goals (first | rfl | (simp [get_ne ‹d0[k]? = some _› ‹d1[k]? = some _› (fun e => by have e1 := congrArg Prod.fst e; have e2 := congrArg Prod.snd e; omega)]))
      · -- FTF
        refine VD.y rfl rfl (.inr ⟨_, _, rfl, _, rfl, rfl⟩) (.mv rfl) ?_
        refine VD.y rfl rfl (.inr ⟨_, _, rfl, _, rfl, rfl⟩) (.mv rfl) ?_
        refine VD.y rfl rfl (.inr ⟨_, _, rfl, _, rfl, rfl⟩) (.ixI k rfl rfl tsl70 rfl bd) ?_
        refine VD.y rfl rfl (.inr ⟨_, _, rfl, _, rfl, rfl⟩) (.fa rfl tst90 rfl) ?_
        refine VD.y rfl rfl (.inr ⟨_, _, rfl, _, rfl, rfl⟩) (.ld1 0 rfl tk3 rfl (hce3.at1 (j := 1) rfl)) ?_
        refine VD.y rfl rfl (.inr ⟨_, _, rfl, _, rfl, rfl⟩) (.mv rfl) ?_
        refine VD.y rfl rfl (.inr ⟨_, _, rfl, _, rfl, rfl⟩) (.mv rfl) ?_
        refine VD.y rfl rfl (.inr ⟨_, _, rfl, _, rfl, rfl⟩) (.ixI k rfl rfl tsl70 rfl bd) ?_
        refine VD.y rfl rfl (.inr ⟨_, _, rfl, _, rfl, rfl⟩) (.fa rfl tst90 rfl) ?_
        refine VD.y rfl rfl (.inr ⟨_, _, rfl, _, rfl, rfl⟩) (.ld1 0 rfl tk3 rfl (hce4.at1 (j := 1) rfl)) ?_
        refine VD.nil rfl ?_ rfl
        refine VO.gy rfl ⟨_, rfl, rfl⟩ (.neq rfl rfl) ?_
        refine VO.y rfl (.pF rfl rfl) ?_
        refine VO.k6 0 1 5 10 14 40 ?_
        refine outN ?_
        refine VC.cond rfl (fun hc8 => ?_) (fun hc8 => ?_)
        · -- FTFT
          refine VC.rs ?_
          refine VO.as ?_
          refine VO.kp [0] [(0, wm W)] ?_
          refine VO.k7 0 1 4 5 10 14 40 ?_
          refine VC.ret ?_
          refine outBR ?_
          refine outR ?_
          refine outR ?_
          refine outBR ?_
          refine outR ?_
          refine ⟨_, _, res_run (rs := [.tmp 4]) rfl (.tmp rfl .nil), fun W_ hI => out_of (l := []) hI [] rfl rfl (mle_refl _) (fun hS_ => ?_)⟩
          dsimp only [packV]
          all_goals (first | rfl | (simp [get_ne ‹d0[k]? = some _› ‹d1[k]? = some _› (fun e => by have e1 := congrArg Prod.fst e; have e2 := congrArg Prod.snd e; omega)]))
        · -- FTFF
          refine VC.skip ?_
          refine outBN ?_
          refine outN ?_
          refine VC.reg ?_
          refine VO.mv ?_
          refine VO.y rfl (.add (c := ((k + 1 : Nat) : Int)) rfl rfl (by omega) ⟨bd, bd⟩) ?_
          refine VO.as ?_
          refine VO.kp [0] [(0, wm W)] ?_
          refine VO.k6 0 1 5 10 14 40 ?_
          exact outN ⟨k + 1, ⟨by omega, by exact take_next ht ‹d0[k]? = some _› ‹d1[k]? = some _› (Prod.ext (by omega) (by omega))⟩, bd, ⟨⟨rfl, rfl, rfl, rfl, trivial⟩, fun _ h => Inv.sub h [0]⟩⟩
    · -- FF
      refine VC.exit ?_
      refine outE ?_
      refine outE ?_
      refine outBB ?_
      refine outN ?_
      refine VC.rs ?_
      refine VO.as ?_
      refine VO.k6 0 1 4 5 10 14 ?_
      refine VC.ret ?_
      refine ⟨_, _, res_run (rs := [.tmp 4]) rfl (.tmp rfl .nil), fun W_ hI => out_of (l := []) hI [] rfl rfl (mle_refl _) (fun hS_ => ?_)⟩
      dsimp only [packV]
      all_goals (first | rfl | (simp [take_all ht (by omega) (by omega)]))
theorem SameCommit_ok (W : World) {v0 : List Value} {d0 : DCommit} (h0 : Rd TCommit (wm W) v0 d0) {v1 : List Value} {d1 : DCommit} (h1 : Rd TCommit (wm W) v1 d1) : CallR Try.prog 49 [.agg v0.toArray, .agg v1.toArray] W (mnil) (fun v m' => v = .bool (decide (d0 = d1))) := by
  obtain ⟨p0_A2, p0_c2, rfl, p0_0, p0_1, p0_2⟩ := open_Commit (x0 := d0.1) (x1 := d0.2.1) (x2 := d0.2.2) h0
  simp only [inK] at p0_0
  simp only [inK] at p0_1
  have p0_r2 := Rd.room p0_2
  obtain ⟨p1_A2, p1_c2, rfl, p1_0, p1_1, p1_2⟩ := open_Commit (x0 := d1.1) (x1 := d1.2.1) (x2 := d1.2.2) h1
  simp only [inK] at p1_0
  simp only [inK] at p1_1
  have p1_r2 := Rd.room p1_2
  refine CallR.ofA (n := 24) Try.func49 rfl rfl rfl ?_
  refine VC.rs ?_
  refine VO.box (cs := [Value.int .i64 (d0.1), Value.int .i64 (d0.2.1), Value.slice p0_A2 (d0.2.2.length) (p0_c2)]) 102 rfl rfl rfl (fun g1 => ?_)
  refine VO.box (cs := [Value.int .i64 (d1.1), Value.int .i64 (d1.2.1), Value.slice p1_A2 (d1.2.2.length) (p1_c2)]) 104 rfl rfl rfl (fun g3 => ?_)
  refine VO.as ?_
  refine VO.k5 0 1 2 3 4 ?_
  refine VC.rs ?_
  refine VO.y rfl (.fa rfl tst52 rfl) ?_
  refine VO.y rfl (.ld1 102 rfl tk3 rfl (cellsAt_one rfl rfl)) ?_
  refine VO.y rfl (.fa rfl tst52 rfl) ?_
  refine VO.y rfl (.ld1 104 rfl tk3 rfl (cellsAt_one rfl rfl)) ?_
  refine VO.y rfl (.eql rfl rfl) ?_
  refine VO.mv ?_
  refine VO.dec (t := 10) rfl (fun hc5 => ?_) (fun hc5 => ?_)
  · -- T
    refine VO.gy rfl ⟨_, rfl, rfl⟩ (.fa rfl tst52 rfl) ?_
    refine VO.gy rfl ⟨_, rfl, rfl⟩ (.ld1 102 rfl tk3 rfl (cellsAt_one rfl rfl)) ?_
    refine VO.gy rfl ⟨_, rfl, rfl⟩ (.fa rfl tst52 rfl) ?_
    refine VO.gy rfl ⟨_, rfl, rfl⟩ (.ld1 104 rfl tk3 rfl (cellsAt_one rfl rfl)) ?_
    refine VO.gy rfl ⟨_, rfl, rfl⟩ (.eql rfl rfl) ?_
    refine VO.y rfl (.pT rfl rfl) ?_
    refine VO.mv ?_
    refine VO.dec (t := 17) rfl (fun hc6 => ?_) (fun hc6 => ?_)
    · -- TT
      refine VO.gy rfl ⟨_, rfl, rfl⟩ (.fa rfl tst52 rfl) ?_
      refine VO.gy rfl ⟨_, rfl, rfl⟩ (.ld1 102 rfl tk22 rfl (cellsAt_one rfl rfl)) ?_
      refine VO.gy rfl ⟨_, rfl, rfl⟩ (.fa rfl tst52 rfl) ?_
      refine VO.gy rfl ⟨_, rfl, rfl⟩ (.ld1 104 rfl tk22 rfl (cellsAt_one rfl rfl)) ?_
      refine VO.gcallN 107 rfl ⟨_, rfl, rfl⟩ fnOk38 rfl (fun W hW => SameOps_ok W (Rd.mono p0_2 (hW.at (i := 0) rfl)) (Rd.mono p1_2 (hW.at (i := 0) rfl))) (fun v7 m7 hv7 => ?_)
      subst hv7
      refine VO.y rfl (.pT rfl rfl) ?_
      refine VO.as ?_
      refine VO.k5 0 1 2 3 4 ?_
      refine VC.ret ?_
      refine ⟨_, _, res_run (rs := [.tmp 4]) rfl (.tmp rfl .nil), fun W_ hI => out_of (l := []) hI [] rfl rfl (mle_refl _) (fun hS_ => ?_)⟩
      dsimp only [packV]
      all_goals (first | rfl | (first | exact congrArg Value.bool (decide_eq_false (fun e => by subst e; exact absurd rfl ‹¬ _ = _›)).symm | exact congrArg Value.bool (decide_eq_decide.2 ⟨fun h => commit_ext ‹_› ‹_› h, fun e => by rw [e]⟩)))
    · -- TF
      refine VO.gN ?_
      refine VO.gN ?_
      refine VO.gN ?_
      refine VO.gN ?_
      refine VO.gN ?_
      refine VO.y rfl (.pF rfl rfl) ?_
      refine VO.as ?_
      refine VO.k5 0 1 2 3 4 ?_
      refine VC.ret ?_
      refine ⟨_, _, res_run (rs := [.tmp 4]) rfl (.tmp rfl .nil), fun W_ hI => out_of (l := []) hI [] rfl rfl (mle_refl _) (fun hS_ => ?_)⟩
      dsimp only [packV]
      all_goals (first | rfl | (first | exact congrArg Value.bool (decide_eq_false (fun e => by subst e; exact absurd rfl ‹¬ _ = _›)).symm | exact congrArg Value.bool (decide_eq_decide.2 ⟨fun h => commit_ext ‹_› ‹_› h, fun e => by rw [e]⟩)))
  · -- F
    refine VO.gN ?_
    refine VO.gN ?_
    refine VO.gN ?_
    refine VO.gN ?_
    refine VO.gN ?_
    refine VO.y rfl (.pF rfl rfl) ?_
    refine VO.mv ?_
    refine VO.gN ?_
    refine VO.gN ?_
    refine VO.gN ?_
    refine VO.gN ?_
    refine VO.gN ?_
    refine VO.y rfl (.pF rfl rfl) ?_
    refine VO.as ?_
    refine VO.k5 0 1 2 3 4 ?_
    refine VC.ret ?_
    refine ⟨_, _, res_run (rs := [.tmp 4]) rfl (.tmp rfl .nil), fun W_ hI => out_of (l := []) hI [] rfl rfl (mle_refl _) (fun hS_ => ?_)⟩
    dsimp only [packV]
    all_goals (first | rfl | (first | exact congrArg Value.bool (decide_eq_false (fun e => by subst e; exact absurd rfl ‹¬ _ = _›)).symm | exact congrArg Value.bool (decide_eq_decide.2 ⟨fun h => commit_ext ‹_› ‹_› h, fun e => by rw [e]⟩)))
theorem SameCommits_ok (W : World) {v0 : Value} {d0 : List DCommit} (h0 : Rd (.sl TCommit) (wm W) [v0] d0) {v1 : Value} {d1 : List DCommit} (h1 : Rd (.sl TCommit) (wm W) [v1] d1) : CallR Try.prog 69 [v0, v1] W (mnil) (fun v m' => v = .bool (decide (d0 = d1))) := by
  obtain ⟨A0, c0, rfl, l0, k0⟩ := h0.slice
  simp only [maxLen] at k0
  obtain ⟨A1, c1, rfl, l1, k1⟩ := h1.slice
  simp only [maxLen] at k1
  refine CallR.ofA (n := 27) Try.func69 rfl rfl rfl ?_
  refine VC.rs ?_
  refine VO.as ?_
  refine VO.k3 0 1 4 ?_
  refine VC.seq ?_
  refine VC.rs ?_
  refine VO.mv ?_
  refine VO.y rfl (.lenS rfl tsl61) ?_
  refine VO.mv ?_
  refine VO.y rfl (.lenS rfl tsl61) ?_
  refine VO.y rfl (.neq rfl rfl) ?_
  refine VO.k4 0 1 4 10 ?_
  refine VC.cond rfl (fun hc1 => ?_) (fun hc1 => ?_)
  · -- T
    refine VC.rs ?_
    refine VO.as ?_
    refine VO.kp [0] [(0, wm W)] ?_
    refine VO.k4 0 1 4 10 ?_
    refine VC.ret ?_
    refine outR ?_
    refine ⟨_, _, res_run (rs := [.tmp 4]) rfl (.tmp rfl .nil), fun W_ hI => out_of (l := []) hI [] rfl rfl (mle_refl _) (fun hS_ => ?_)⟩
    dsimp only [packV]
    all_goals (first | rfl | (simp [len_ne hc1]))
  · -- F
    refine VC.skip ?_
    refine outN ?_
    refine VC.seq ?_
    refine VC.rs ?_
    refine VO.as ?_
    refine VO.kp [0] [(0, wm W)] ?_
    refine VO.k5 0 1 4 5 10 ?_
    refine VC.block ?_
    refine VC.loop (G := Nat) (fun k => [(5, Value.int .i64 (((k : Nat) : Int))), (0, Value.slice A0 (d0.length) (c0)), (1, Value.slice A1 (d1.length) (c1)), (10, Value.bool (decide (¬ ((d0.length : Nat) : Int) = ((d1.length : Nat) : Int))))]) (fun k => [(0, wm W)]) (fun k => (k ≤ d0.length) ∧ (d0.take k = d1.take k)) (fun k => d0.length - k) 0 (⟨by omega, by rfl⟩) ⟨⟨rfl, rfl, rfl, rfl, trivial⟩, fun _ h => h.sub [0]⟩ ?_
    rintro k ⟨hk, ht⟩
    refine VC.seq ?_
    refine VC.rs ?_
    refine VO.mv ?_
    refine VO.mv ?_
    refine VO.y rfl (.lenS rfl tsl61) ?_
    refine VO.y rfl (.lss rfl rfl) ?_
    refine VO.k5 0 1 5 10 14 ?_
    refine VC.cond rfl (fun hc2 => ?_) (fun hc2 => ?_)
    · -- FT
      refine VC.skip ?_
      refine outN ?_
      refine VC.seq ?_
      refine VC.block ?_
      refine VC.seq ?_
      refine VC.regD _ 8 [(0, true), (1, true), (2, true), (3, true), (4, true), (5, true), (6, true), (7, true)] follows (by kernel_rfl) (fun _ h => h.sub [0]) ?_
      refine VD.y rfl rfl (.inl rfl) (.mv rfl) ?_
      refine VD.y rfl rfl (.inl rfl) (.mv rfl) ?_
      obtain ⟨x3, hx3⟩ : ∃ z_, (d0)[k]? = some z_ := ⟨_, List.getElem?_eq_getElem bd⟩
      obtain ⟨gg3, oo3, ec3, ea3, hce3, hre3⟩ := h0.elem hx3
      cases ea3
      obtain ⟨q3_A2, q3_c2, rfl, q3_0, q3_1, q3_2⟩ := open_Commit (x0 := x3.1) (x1 := x3.2.1) (x2 := x3.2.2) hre3
      simp only [inK] at q3_0
      simp only [inK] at q3_1
      have q3_r2 := Rd.room q3_2
      refine VD.y rfl rfl (.inl rfl) (.ixI k rfl rfl tsl61 rfl bd) ?_
      refine VD.y rfl rfl (.inl rfl) (.ldA 0 rfl tk52 rfl hce3) ?_
      refine VD.y rfl rfl (.inl rfl) (.mv rfl) ?_
      refine VD.y rfl rfl (.inl rfl) (.mv rfl) ?_
      obtain ⟨x4, hx4⟩ : ∃ z_, (d1)[k]? = some z_ := ⟨_, List.getElem?_eq_getElem bd⟩
      obtain ⟨gg4, oo4, ec4, ea4, hce4, hre4⟩ := h1.elem hx4
      cases ea4
      obtain ⟨q4_A2, q4_c2, rfl, q4_0, q4_1, q4_2⟩ := open_Commit (x0 := x4.1) (x1 := x4.2.1) (x2 := x4.2.2) hre4
      simp only [inK] at q4_0
      simp only [inK] at q4_1
      have q4_r2 := Rd.room q4_2
      refine VD.y rfl rfl (.inl rfl) (.ixI k rfl rfl tsl61 rfl bd) ?_
      refine VD.y rfl rfl (.inl rfl) (.ldA 0 rfl tk52 rfl hce4) ?_
      refine VD.nil rfl ?_ rfl
      refine VO.callN 105 rfl fnOk49 rfl (fun W hW => SameCommit_ok W (Rd.mono hre3 (hW.at (i := 0) rfl)) (Rd.mono hre4 (hW.at (i := 0) rfl))) (fun v5 m5 hv5 => ?_)
      subst hv5
      refine VO.y rfl (.notD rfl) ?_
      refine VO.k6 0 1 5 10 14 26 ?_
      refine outN ?_
      refine VC.cond rfl (fun hc6 => ?_) (fun hc6 => ?_)
      · -- FTT
        refine VC.rs ?_
        refine VO.as ?_
        refine VO.kp [0] [(0, wm W)] ?_
        refine VO.k7 0 1 4 5 10 14 26 ?_
        refine VC.ret ?_
        refine outBR ?_
        refine outR ?_
        refine outR ?_
        refine outBR ?_
        refine outR ?_
        refine ⟨_, _, res_run (rs := [.tmp 4]) rfl (.tmp rfl .nil), fun W_ hI => out_of (l := []) hI [] rfl rfl (mle_refl _) (fun hS_ => ?_)⟩
        dsimp only [packV]
        all_goals (first | rfl | (simp [get_ne ‹d0[k]? = some _› ‹d1[k]? = some _› (‹¬ _ = _›)]))
      · -- FTF
        refine VC.skip ?_
        refine outBN ?_
        refine outN ?_
        refine VC.reg ?_
        refine VO.mv ?_
        refine VO.y rfl (.add (c := ((k + 1 : Nat) : Int)) rfl rfl (by omega) ⟨bd, bd⟩) ?_
        refine VO.as ?_
        refine VO.kp [0] [(0, wm W)] ?_
        refine VO.k6 0 1 5 10 14 26 ?_
        exact outN ⟨k + 1, ⟨by omega, by exact take_next ht ‹d0[k]? = some _› ‹d1[k]? = some _› (Decidable.not_not.1 ‹¬ ¬ _ = _›)⟩, bd, ⟨⟨rfl, rfl, rfl, rfl, trivial⟩, fun _ h => Inv.sub h [0]⟩⟩
    · -- FF
      refine VC.exit ?_
      refine outE ?_
      refine outE ?_
      refine outBB ?_
      refine outN ?_
      refine VC.rs ?_
      refine VO.as ?_
      refine VO.k6 0 1 4 5 10 14 ?_
      refine VC.ret ?_
      refine ⟨_, _, res_run (rs := [.tmp 4]) rfl (.tmp rfl .nil), fun W_ hI => out_of (l := []) hI [] rfl rfl (mle_refl _) (fun hS_ => ?_)⟩
      dsimp only [packV]
      all_goals (first | rfl | (simp [take_all ht (by omega) (by omega)]))
theorem fin0_SameMessage_ok {P : Prop} (h : P := by first | exact congrArg Value.bool (decide_eq_false (fun e => by subst e; exact absurd rfl ‹¬ _ = _›)).symm | exact congrArg Value.bool (decide_eq_decide.2 ⟨fun h => message_ext ‹_› ‹_› ‹_› ‹_› ‹_› ‹_› ‹_› h, fun e => by rw [e]⟩)) : P := h
theorem SameMessage_ok (W : World) {v0 : List Value} {d0 : DMessage} (h0 : Rd TMessage (wm W) v0 d0) {v1 : List Value} {d1 : DMessage} (h1 : Rd TMessage (wm W) v1 d1) : CallR Try.prog 71 [.agg v0.toArray, .agg v1.toArray] W (mnil) (fun v m' => v = .bool (decide (d0 = d1))) := by
  obtain ⟨p0_A4, p0_c4, p0_A7, p0_c7, rfl, p0_0, p0_1, p0_2, p0_3, p0_4, p0_5, p0_6, p0_7⟩ := open_Message (x0 := d0.1) (x1 := d0.2.1) (x2 := d0.2.2.1) (x3 := d0.2.2.2.1) (x4 := d0.2.2.2.2.1) (x5 := d0.2.2.2.2.2.1) (x6 := d0.2.2.2.2.2.2.1) (x7 := d0.2.2.2.2.2.2.2) h0
  simp only [inK] at p0_0
  simp only [inK] at p0_1
  simp only [inK] at p0_2
  simp only [inK] at p0_3
  have p0_r4 := Rd.room p0_4
  simp only [inK] at p0_5
  simp only [inK] at p0_6
  have p0_r7 := Rd.room p0_7
  obtain ⟨p1_A4, p1_c4, p1_A7, p1_c7, rfl, p1_0, p1_1, p1_2, p1_3, p1_4, p1_5, p1_6, p1_7⟩ := open_Message (x0 := d1.1) (x1 := d1.2.1) (x2 := d1.2.2.1) (x3 := d1.2.2.2.1) (x4 := d1.2.2.2.2.1) (x5 := d1.2.2.2.2.2.1) (x6 := d1.2.2.2.2.2.2.1) (x7 := d1.2.2.2.2.2.2.2) h1
  simp only [inK] at p1_0
  simp only [inK] at p1_1
  simp only [inK] at p1_2
  simp only [inK] at p1_3
  have p1_r4 := Rd.room p1_4
  simp only [inK] at p1_5
  simp only [inK] at p1_6
  have p1_r7 := Rd.room p1_7
  refine CallR.ofA (n := 59) Try.func71 rfl rfl rfl ?_
  refine VC.rs ?_
  refine VO.box (cs := [Value.int .i64 (d0.1), Value.int .i64 (d0.2.1), Value.int .u8 (d0.2.2.1), Value.int .i64 (d0.2.2.2.1), Value.slice p0_A4 (d0.2.2.2.2.1.length) (p0_c4), Value.int .i64 (d0.2.2.2.2.2.1), Value.int .i64 (d0.2.2.2.2.2.2.1), Value.slice p0_A7 (d0.2.2.2.2.2.2.2.length) (p0_c7)]) 102 rfl rfl rfl (fun g1 => ?_)
  refine VO.box (cs := [Value.int .i64 (d1.1), Value.int .i64 (d1.2.1), Value.int .u8 (d1.2.2.1), Value.int .i64 (d1.2.2.2.1), Value.slice p1_A4 (d1.2.2.2.2.1.length) (p1_c4), Value.int .i64 (d1.2.2.2.2.2.1), Value.int .i64 (d1.2.2.2.2.2.2.1), Value.slice p1_A7 (d1.2.2.2.2.2.2.2.length) (p1_c7)]) 104 rfl rfl rfl (fun g3 => ?_)
  refine VO.as ?_
  refine VO.k5 0 1 2 3 4 ?_
  refine VC.rs ?_
  refine VO.y rfl (.fa rfl tst72 rfl) ?_
  refine VO.y rfl (.ld1 102 rfl tk3 rfl (cellsAt_one rfl rfl)) ?_
  refine VO.y rfl (.fa rfl tst72 rfl) ?_
  refine VO.y rfl (.ld1 104 rfl tk3 rfl (cellsAt_one rfl rfl)) ?_
  refine VO.y rfl (.eql rfl rfl) ?_
  refine VO.mv ?_
  refine VO.dec (t := 10) rfl (fun hc5 => ?_) (fun hc5 => ?_)
  · -- T
    refine VO.gy rfl ⟨_, rfl, rfl⟩ (.fa rfl tst72 rfl) ?_
    refine VO.gy rfl ⟨_, rfl, rfl⟩ (.ld1 102 rfl tk3 rfl (cellsAt_one rfl rfl)) ?_
    refine VO.gy rfl ⟨_, rfl, rfl⟩ (.fa rfl tst72 rfl) ?_
    refine VO.gy rfl ⟨_, rfl, rfl⟩ (.ld1 104 rfl tk3 rfl (cellsAt_one rfl rfl)) ?_
    refine VO.gy rfl ⟨_, rfl, rfl⟩ (.eql rfl rfl) ?_
    refine VO.y rfl (.pT rfl rfl) ?_
    refine VO.mv ?_
    refine VO.dec (t := 17) rfl (fun hc6 => ?_) (fun hc6 => ?_)
    · -- TT
      refine VO.gy rfl ⟨_, rfl, rfl⟩ (.fa rfl tst72 rfl) ?_
      refine VO.gy rfl ⟨_, rfl, rfl⟩ (.ld1 102 rfl tk69 rfl (cellsAt_one rfl rfl)) ?_
      refine VO.gy rfl ⟨_, rfl, rfl⟩ (.fa rfl tst72 rfl) ?_
      refine VO.gy rfl ⟨_, rfl, rfl⟩ (.ld1 104 rfl tk69 rfl (cellsAt_one rfl rfl)) ?_
      refine VO.gy rfl ⟨_, rfl, rfl⟩ (.eql rfl rfl) ?_
      refine VO.y rfl (.pT rfl rfl) ?_
      refine VO.mv ?_
      refine VO.dec (t := 24) rfl (fun hc7 => ?_) (fun hc7 => ?_)
      · -- TTT
        refine VO.gy rfl ⟨_, rfl, rfl⟩ (.fa rfl tst72 rfl) ?_
        refine VO.gy rfl ⟨_, rfl, rfl⟩ (.ld1 102 rfl tk3 rfl (cellsAt_one rfl rfl)) ?_
        refine VO.gy rfl ⟨_, rfl, rfl⟩ (.fa rfl tst72 rfl) ?_
        refine VO.gy rfl ⟨_, rfl, rfl⟩ (.ld1 104 rfl tk3 rfl (cellsAt_one rfl rfl)) ?_
        refine VO.gy rfl ⟨_, rfl, rfl⟩ (.eql rfl rfl) ?_
        refine VO.y rfl (.pT rfl rfl) ?_
        refine VO.mv ?_
        refine VO.dec (t := 31) rfl (fun hc8 => ?_) (fun hc8 => ?_)
        · -- TTTT
          refine VO.gy rfl ⟨_, rfl, rfl⟩ (.fa rfl tst72 rfl) ?_
          refine VO.gy rfl ⟨_, rfl, rfl⟩ (.ld1 102 rfl tk70 rfl (cellsAt_one rfl rfl)) ?_
          refine VO.gy rfl ⟨_, rfl, rfl⟩ (.fa rfl tst72 rfl) ?_
          refine VO.gy rfl ⟨_, rfl, rfl⟩ (.ld1 104 rfl tk70 rfl (cellsAt_one rfl rfl)) ?_
          refine VO.gcallN 109 rfl ⟨_, rfl, rfl⟩ fnOk113 rfl (fun W hW => SameStarts_ok W (Rd.mono p0_4 (hW.at (i := 0) rfl)) (Rd.mono p1_4 (hW.at (i := 0) rfl))) (fun v9 m9 hv9 => ?_)
          subst hv9
          refine VO.y rfl (.pT rfl rfl) ?_
          refine VO.mv ?_
          refine VO.dec (t := 38) rfl (fun hc10 => ?_) (fun hc10 => ?_)
          · -- TTTTT
            refine VO.gy rfl ⟨_, rfl, rfl⟩ (.fa rfl tst72 rfl) ?_
            refine VO.gy rfl ⟨_, rfl, rfl⟩ (.ld1 102 rfl tk3 rfl (cellsAt_one rfl rfl)) ?_
            refine VO.gy rfl ⟨_, rfl, rfl⟩ (.fa rfl tst72 rfl) ?_
            refine VO.gy rfl ⟨_, rfl, rfl⟩ (.ld1 104 rfl tk3 rfl (cellsAt_one rfl rfl)) ?_
            refine VO.gy rfl ⟨_, rfl, rfl⟩ (.eql rfl rfl) ?_
            refine VO.y rfl (.pT rfl rfl) ?_
            refine VO.mv ?_
            refine VO.dec (t := 45) rfl (fun hc11 => ?_) (fun hc11 => ?_)
            · -- TTTTTT
              refine VO.gy rfl ⟨_, rfl, rfl⟩ (.fa rfl tst72 rfl) ?_
              refine VO.gy rfl ⟨_, rfl, rfl⟩ (.ld1 102 rfl tk3 rfl (cellsAt_one rfl rfl)) ?_
              refine VO.gy rfl ⟨_, rfl, rfl⟩ (.fa rfl tst72 rfl) ?_
              refine VO.gy rfl ⟨_, rfl, rfl⟩ (.ld1 104 rfl tk3 rfl (cellsAt_one rfl rfl)) ?_
              refine VO.gy rfl ⟨_, rfl, rfl⟩ (.eql rfl rfl) ?_
              refine VO.y rfl (.pT rfl rfl) ?_
              refine VO.mv ?_
              refine VO.dec (t := 52) rfl (fun hc12 => ?_) (fun hc12 => ?_)
              · -- TTTTTTT
                refine VO.gy rfl ⟨_, rfl, rfl⟩ (.fa rfl tst72 rfl) ?_
                refine VO.gy rfl ⟨_, rfl, rfl⟩ (.ld1 102 rfl tk61 rfl (cellsAt_one rfl rfl)) ?_
                refine VO.gy rfl ⟨_, rfl, rfl⟩ (.fa rfl tst72 rfl) ?_
                refine VO.gy rfl ⟨_, rfl, rfl⟩ (.ld1 104 rfl tk61 rfl (cellsAt_one rfl rfl)) ?_
                refine VO.gcallN 113 rfl ⟨_, rfl, rfl⟩ fnOk69 rfl (fun W hW => SameCommits_ok W (Rd.mono p0_7 (hW.at (i := 0) rfl)) (Rd.mono p1_7 (hW.at (i := 0) rfl))) (fun v13 m13 hv13 => ?_)
                subst hv13
                refine VO.y rfl (.pT rfl rfl) ?_
                refine VO.as ?_
                refine VO.k5 0 1 2 3 4 ?_
                refine VC.ret ?_
                refine ⟨_, _, res_run (rs := [.tmp 4]) rfl (.tmp rfl .nil), fun W_ hI => out_of (l := []) hI [] rfl rfl (mle_refl _) (fun hS_ => ?_)⟩
                dsimp only [packV]
                all_goals (first | rfl | (exact fin0_SameMessage_ok))
              · -- TTTTTTF
                refine VO.gN ?_
                refine VO.gN ?_
                refine VO.gN ?_
                refine VO.gN ?_
                refine VO.gN ?_
                refine VO.y rfl (.pF rfl rfl) ?_
                refine VO.as ?_
                refine VO.k5 0 1 2 3 4 ?_
                refine VC.ret ?_
                refine ⟨_, _, res_run (rs := [.tmp 4]) rfl (.tmp rfl .nil), fun W_ hI => out_of (l := []) hI [] rfl rfl (mle_refl _) (fun hS_ => ?_)⟩
                dsimp only [packV]
                all_goals (first | rfl | (exact fin0_SameMessage_ok))
            · -- TTTTTF
              refine VO.gN ?_
              refine VO.gN ?_
              refine VO.gN ?_
              refine VO.gN ?_
              refine VO.gN ?_
              refine VO.y rfl (.pF rfl rfl) ?_
              refine VO.mv ?_
              refine VO.gN ?_
              refine VO.gN ?_
              refine VO.gN ?_
              refine VO.gN ?_
              refine VO.gN ?_
              refine VO.y rfl (.pF rfl rfl) ?_
              refine VO.as ?_
              refine VO.k5 0 1 2 3 4 ?_
              refine VC.ret ?_
              refine ⟨_, _, res_run (rs := [.tmp 4]) rfl (.tmp rfl .nil), fun W_ hI => out_of (l := []) hI [] rfl rfl (mle_refl _) (fun hS_ => ?_)⟩
              dsimp only [packV]
              all_goals (first | rfl | (exact fin0_SameMessage_ok))
          · -- TTTTF
            refine VO.gN ?_
            refine VO.gN ?_
            refine VO.gN ?_
            refine VO.gN ?_
            refine VO.gN ?_
            refine VO.y rfl (.pF rfl rfl) ?_
            refine VO.mv ?_
            refine VO.gN ?_
            refine VO.gN ?_
            refine VO.gN ?_
            refine VO.gN ?_
            refine VO.gN ?_
            refine VO.y rfl (.pF rfl rfl) ?_
            refine VO.mv ?_
            refine VO.gN ?_
            refine VO.gN ?_
            refine VO.gN ?_
            refine VO.gN ?_
            refine VO.gN ?_
            refine VO.y rfl (.pF rfl rfl) ?_
            refine VO.as ?_
            refine VO.k5 0 1 2 3 4 ?_
            refine VC.ret ?_
            refine ⟨_, _, res_run (rs := [.tmp 4]) rfl (.tmp rfl .nil), fun W_ hI => out_of (l := []) hI [] rfl rfl (mle_refl _) (fun hS_ => ?_)⟩
            dsimp only [packV]
            all_goals (first | rfl | (exact fin0_SameMessage_ok))
        · -- TTTF
          refine VO.gN ?_
          refine VO.gN ?_
          refine VO.gN ?_
          refine VO.gN ?_
          refine VO.gN ?_
          refine VO.y rfl (.pF rfl rfl) ?_
          refine VO.mv ?_
          refine VO.gN ?_
          refine VO.gN ?_
          refine VO.gN ?_
          refine VO.gN ?_
          refine VO.gN ?_
          refine VO.y rfl (.pF rfl rfl) ?_
          refine VO.mv ?_
          refine VO.gN ?_
          refine VO.gN ?_
          refine VO.gN ?_
          refine VO.gN ?_
          refine VO.gN ?_
          refine VO.y rfl (.pF rfl rfl) ?_
          refine VO.mv ?_
          refine VO.gN ?_
          refine VO.gN ?_
          refine VO.gN ?_
          refine VO.gN ?_
          refine VO.gN ?_
          refine VO.y rfl (.pF rfl rfl) ?_
          refine VO.as ?_
          refine VO.k5 0 1 2 3 4 ?_
          refine VC.ret ?_
          refine ⟨_, _, res_run (rs := [.tmp 4]) rfl (.tmp rfl .nil), fun W_ hI => out_of (l := []) hI [] rfl rfl (mle_refl _) (fun hS_ => ?_)⟩
          dsimp only [packV]
          all_goals (first | rfl | (exact fin0_SameMessage_ok))
      · -- TTF
        refine VO.gN ?_
        refine VO.gN ?_
        refine VO.gN ?_
        refine VO.gN ?_
        refine VO.gN ?_
        refine VO.y rfl (.pF rfl rfl) ?_
        refine VO.mv ?_
        refine VO.gN ?_
        refine VO.gN ?_
        refine VO.gN ?_
        refine VO.gN ?_
        refine VO.gN ?_
        refine VO.y rfl (.pF rfl rfl) ?_
        refine VO.mv ?_
        refine VO.gN ?_
        refine VO.gN ?_
        refine VO.gN ?_
        refine VO.gN ?_
        refine VO.gN ?_
        refine VO.y rfl (.pF rfl rfl) ?_
        refine VO.mv ?_
        refine VO.gN ?_
        refine VO.gN ?_
        refine VO.gN ?_
        refine VO.gN ?_
        refine VO.gN ?_
        refine VO.y rfl (.pF rfl rfl) ?_
        refine VO.mv ?_
        refine VO.gN ?_
        refine VO.gN ?_
        refine VO.gN ?_
        refine VO.gN ?_
        refine VO.gN ?_
        refine VO.y rfl (.pF rfl rfl) ?_
        refine VO.as ?_
        refine VO.k5 0 1 2 3 4 ?_
        refine VC.ret ?_
        refine ⟨_, _, res_run (rs := [.tmp 4]) rfl (.tmp rfl .nil), fun W_ hI => out_of (l := []) hI [] rfl rfl (mle_refl _) (fun hS_ => ?_)⟩
        dsimp only [packV]
        all_goals (first | rfl | (exact fin0_SameMessage_ok))
    · -- TF
      refine VO.gN ?_
      refine VO.gN ?_
      refine VO.gN ?_
      refine VO.gN ?_
      refine VO.gN ?_
      refine VO.y rfl (.pF rfl rfl) ?_
      refine VO.mv ?_
      refine VO.gN ?_
      refine VO.gN ?_
      refine VO.gN ?_
      refine VO.gN ?_
      refine VO.gN ?_
      refine VO.y rfl (.pF rfl rfl) ?_
      refine VO.mv ?_
      refine VO.gN ?_
      refine VO.gN ?_
      refine VO.gN ?_
      refine VO.gN ?_
      refine VO.gN ?_
      refine VO.y rfl (.pF rfl rfl) ?_
      refine VO.mv ?_
      refine VO.gN ?_
      refine VO.gN ?_
      refine VO.gN ?_
      refine VO.gN ?_
      refine VO.gN ?_
      refine VO.y rfl (.pF rfl rfl) ?_
      refine VO.mv ?_
      refine VO.gN ?_
      refine VO.gN ?_
      refine VO.gN ?_
      refine VO.gN ?_
      refine VO.gN ?_
      refine VO.y rfl (.pF rfl rfl) ?_
      refine VO.mv ?_
      refine VO.gN ?_
      refine VO.gN ?_
      refine VO.gN ?_
      refine VO.gN ?_
      refine VO.gN ?_
      refine VO.y rfl (.pF rfl rfl) ?_
      refine VO.as ?_
      refine VO.k5 0 1 2 3 4 ?_
      refine VC.ret ?_
      refine ⟨_, _, res_run (rs := [.tmp 4]) rfl (.tmp rfl .nil), fun W_ hI => out_of (l := []) hI [] rfl rfl (mle_refl _) (fun hS_ => ?_)⟩
      dsimp only [packV]
      all_goals (first | rfl | (exact fin0_SameMessage_ok))
  · -- F
    refine VO.gN ?_
    refine VO.gN ?_
    refine VO.gN ?_
    refine VO.gN ?_
    refine VO.gN ?_
    refine VO.y rfl (.pF rfl rfl) ?_
    refine VO.mv ?_
    refine VO.gN ?_
    refine VO.gN ?_
    refine VO.gN ?_
    refine VO.gN ?_
    refine VO.gN ?_
    refine VO.y rfl (.pF rfl rfl) ?_
    refine VO.mv ?_
    refine VO.gN ?_
    refine VO.gN ?_
    refine VO.gN ?_
    refine VO.gN ?_
    refine VO.gN ?_
    refine VO.y rfl (.pF rfl rfl) ?_
    refine VO.mv ?_
    refine VO.gN ?_
    refine VO.gN ?_
    refine VO.gN ?_
    refine VO.gN ?_
    refine VO.gN ?_
    refine VO.y rfl (.pF rfl rfl) ?_
    refine VO.mv ?_
    refine VO.gN ?_
    refine VO.gN ?_
    refine VO.gN ?_
    refine VO.gN ?_
    refine VO.gN ?_
    refine VO.y rfl (.pF rfl rfl) ?_
    refine VO.mv ?_
    refine VO.gN ?_
    refine VO.gN ?_
    refine VO.gN ?_
    refine VO.gN ?_
    refine VO.gN ?_
    refine VO.y rfl (.pF rfl rfl) ?_
    refine VO.mv ?_
    refine VO.gN ?_
    refine VO.gN ?_
    refine VO.gN ?_
    refine VO.gN ?_
    refine VO.gN ?_
    refine VO.y rfl (.pF rfl rfl) ?_
    refine VO.as ?_
    refine VO.k5 0 1 2 3 4 ?_
    refine VC.ret ?_
    refine ⟨_, _, res_run (rs := [.tmp 4]) rfl (.tmp rfl .nil), fun W_ hI => out_of (l := []) hI [] rfl rfl (mle_refl _) (fun hS_ => ?_)⟩
    dsimp only [packV]
    all_goals (first | rfl | (exact fin0_SameMessage_ok))
end
section
set_option linter.unusedVariables false
def sGo (en : Int) : Int → Int → Nat → List DStart → Prop
  | _, _, _, [] => True
  | le, lf, i, s :: r => le < s.1 ∧ s.1 ≤ 1048576 ∧ lf < s.2 ∧ s.2 ≤ en ∧ (i = 0 → s.2 = 1) ∧ sGo en s.1 s.2 (i + 1) r
instance decGo (en : Int) : ∀ (le lf : Int) (i : Nat) (l : List DStart), Decidable (sGo en le lf i l)
  | _, _, _, [] => isTrue trivial
  | le, lf, i, s :: r => by
    have := decGo en s.1 s.2 (i + 1) r
    unfold sGo; infer_instance
def sCheck (l : List DStart) (en : Int) : Int := if 0 ≤ en ∧ en ≤ 1048576 ∧ ((l.length : Int) = 0 ↔ en = 0) ∧ sGo en 0 0 0 l then 0 else 5
section
variable {l : List DStart} {en le lf : Int} {k : Nat} {x : DStart}
theorem sCheck_arg (h : en < 0 ∨ 1048576 < en) : sCheck l en = 5 := if_neg (fun e => by omega)
theorem sCheck_len (h : ¬ decide ((l.length : Int) = 0) = decide (en = 0)) : sCheck l en = 5 := if_neg (fun e => h (decide_eq_decide.2 e.2.2.1))
theorem sGo_at (hx : l[k]? = some x) : sGo en le lf k (l.drop k) ↔ le < x.1 ∧ x.1 ≤ 1048576 ∧ lf < x.2 ∧ x.2 ≤ en ∧ (k = 0 → x.2 = 1) ∧ sGo en x.1 x.2 (k + 1) (l.drop (k + 1)) := by
  rw [drop_next hx]; rfl
theorem sGo_step (hx : l[k]? = some x) (h1 : le < x.1) (h2 : x.1 ≤ 1048576) (h3 : lf < x.2) (h4 : x.2 ≤ en) (h5 : k = 0 → x.2 = 1) : sGo en le lf k (l.drop k) ↔ sGo en x.1 x.2 (k + 1) (l.drop (k + 1)) := by
  rw [sGo_at hx]; exact ⟨fun h => h.2.2.2.2.2, fun h => ⟨h1, h2, h3, h4, h5, h⟩⟩
theorem sCheck_bad (hs : sGo en 0 0 0 l ↔ sGo en le lf k (l.drop k)) (hx : l[k]? = some x) (h : x.1 ≤ le ∨ 1048576 < x.1 ∨ x.2 ≤ lf ∨ en < x.2 ∨ (k = 0 ∧ ¬ x.2 = 1)) : sCheck l en = 5 := by
  refine if_neg (fun e => ?_)
  have := (sGo_at hx).1 (hs.1 e.2.2.2)
  obtain ⟨a, b, c, d, f, _⟩ := this
  rcases h with h | h | h | h | ⟨h, h'⟩
  · omega
  · omega
  · omega
  · omega
  · exact h' (f h)
theorem sCheck_good (h1 : 0 ≤ en) (h2 : en ≤ 1048576) (h3 : ¬ ¬ decide ((l.length : Int) = 0) = decide (en = 0)) (h : sGo en 0 0 0 l) : sCheck l en = 0 := if_pos ⟨h1, h2, decide_eq_decide.1 (Decidable.not_not.1 h3), h⟩
theorem sCheck_range (l : List DStart) (en : Int) : 0 ≤ sCheck l en ∧ sCheck l en ≤ 5 := by unfold sCheck; split <;> omega
end
def bareM (m : DMessage) : Prop := m.2.2.1 = 0 ∧ m.2.2.2.1 = 0 ∧ m.2.2.2.2.1.length = 0 ∧ m.2.2.2.2.2.1 = 0 ∧ m.2.2.2.2.2.2.1 = 0 ∧ m.2.2.2.2.2.2.2.length = 0
instance (m : DMessage) : Decidable (bareM m) := by unfold bareM; infer_instance
def lastOk (l : List DStart) (e : Int) : Bool := match l.getLast? with
  | some s => decide (s.1 ≤ e)
  | none => true
def helloM (m : DMessage) : Prop := (1 ≤ m.2.2.1 ∧ m.2.2.1 ≤ 3) ∧ sCheck m.2.2.2.2.1 m.2.2.2.1 = 0 ∧ lastOk m.2.2.2.2.1 m.2.1 = true ∧ m.2.2.2.2.2.1 = 0 ∧ m.2.2.2.2.2.2.1 = 0 ∧ m.2.2.2.2.2.2.2.length = 0
instance (m : DMessage) : Decidable (helloM m) := by unfold helloM; infer_instance
def shipM (m : DMessage) : Prop := (1 ≤ m.2.2.2.2.2.1 ∧ m.2.2.2.2.2.1 ≤ 1048576) ∧ (0 ≤ m.2.2.2.2.2.2.1 ∧ m.2.2.2.2.2.2.1 ≤ m.2.1) ∧ (m.2.2.2.2.2.2.1 = 0 ↔ m.2.2.2.2.2.1 = 1) ∧ m.2.2.2.2.2.2.2.length ≤ 4 ∧
  (cFollows m.2.2.2.2.2.2.1 (m.2.2.2.2.2.1 - 1) m.2.2.2.2.2.2.2).1 = 0 ∧ (∀ c ∈ m.2.2.2.2.2.2.2, c.1 ≤ m.2.1) ∧ m.2.2.1 = 0 ∧ m.2.2.2.1 = 0 ∧ m.2.2.2.2.1.length = 0
instance (m : DMessage) : Decidable (shipM m) := by unfold shipM; infer_instance
def ackM (m : DMessage) : Prop := (0 ≤ m.2.2.2.1 ∧ m.2.2.2.1 ≤ 1048576) ∧ m.2.2.1 = 0 ∧ m.2.2.2.2.1.length = 0 ∧ m.2.2.2.2.2.1 = 0 ∧ m.2.2.2.2.2.2.1 = 0 ∧ m.2.2.2.2.2.2.2.length = 0
instance (m : DMessage) : Decidable (ackM m) := by unfold ackM; infer_instance
def lCheck (m : DMessage) : Int := if (1 ≤ m.2.1 ∧ m.2.1 ≤ 1048576) ∧ ((m.1 = 1 ∧ helloM m) ∨ (m.1 = 2 ∧ shipM m) ∨ (m.1 = 3 ∧ ackM m)) then 0 else 2
theorem lCheck_good {m : DMessage} (h : (1 ≤ m.2.1 ∧ m.2.1 ≤ 1048576) ∧ ((m.1 = 1 ∧ helloM m) ∨ (m.1 = 2 ∧ shipM m) ∨ (m.1 = 3 ∧ ackM m))) : lCheck m = 0 := if_pos h
theorem lCheck_bad {m : DMessage} (h : ¬ ((1 ≤ m.2.1 ∧ m.2.1 ≤ 1048576) ∧ ((m.1 = 1 ∧ helloM m) ∨ (m.1 = 2 ∧ shipM m) ∨ (m.1 = 3 ∧ ackM m)))) : lCheck m = 2 := if_neg h
theorem lCheck_range (m : DMessage) : 0 ≤ lCheck m ∧ lCheck m ≤ 2 := by unfold lCheck; split <;> omega
theorem lastOk_of {l : List DStart} {e : Int} {k : Nat} {x : DStart} (hx : l[k]? = some x) (h0 : k + 1 = l.length) : lastOk l e = decide (x.1 ≤ e) := by
  unfold lastOk; rw [List.getLast?_eq_getElem?, show l.length - 1 = k by omega, hx]
theorem lastOk_nil {l : List DStart} {e : Int} (h0 : l.length = 0) : lastOk l e = true := by
  rw [List.eq_nil_of_length_eq_zero h0]; rfl
section
variable {m : DMessage}
theorem ack_iff (h : 0 ≤ m.2.2.2.1 ∧ m.2.2.2.1 ≤ 1048576) : bareM (m.1, m.2.1, m.2.2.1, 0, m.2.2.2.2.1, m.2.2.2.2.2.1, m.2.2.2.2.2.2.1, m.2.2.2.2.2.2.2) ↔ ackM m := by
  unfold ackM bareM; dsimp only; omega
theorem hello_iff (h1 : 1 ≤ m.2.2.1 ∧ m.2.2.1 ≤ 3) (h2 : sCheck m.2.2.2.2.1 m.2.2.2.1 = 0) (h3 : lastOk m.2.2.2.2.1 m.2.1 = true) : bareM (m.1, m.2.1, 0, 0, [], m.2.2.2.2.2.1, m.2.2.2.2.2.2.1, m.2.2.2.2.2.2.2) ↔ helloM m :=
  ⟨fun h => ⟨h1, h2, h3, h.2.2.2.1, h.2.2.2.2.1, h.2.2.2.2.2⟩, fun h => ⟨rfl, rfl, rfl, h.2.2.2.1, h.2.2.2.2.1, h.2.2.2.2.2⟩⟩
theorem ship_iff (h1 : 1 ≤ m.2.2.2.2.2.1 ∧ m.2.2.2.2.2.1 ≤ 1048576) (h2 : 0 ≤ m.2.2.2.2.2.2.1 ∧ m.2.2.2.2.2.2.1 ≤ m.2.1) (h3 : ¬ ¬ decide (m.2.2.2.2.2.2.1 = 0) = decide (m.2.2.2.2.2.1 = 1)) (h4 : m.2.2.2.2.2.2.2.length ≤ 4)
    (h5 : (cFollows m.2.2.2.2.2.2.1 (m.2.2.2.2.2.1 - 1) m.2.2.2.2.2.2.2).1 = 0) (h6 : ∀ c ∈ m.2.2.2.2.2.2.2, c.1 ≤ m.2.1) : bareM (m.1, m.2.1, m.2.2.1, m.2.2.2.1, m.2.2.2.2.1, 0, 0, []) ↔ shipM m :=
  ⟨fun h => ⟨h1, h2, decide_eq_decide.1 (Decidable.not_not.1 h3), h4, h5, h6, h.1, h.2.1, h.2.2.1⟩, fun h => ⟨h.2.2.2.2.2.2.1, h.2.2.2.2.2.2.2.1, h.2.2.2.2.2.2.2.2, rfl, rfl, rfl⟩⟩
theorem ship_len (h : ¬ decide (m.2.2.2.2.2.2.1 = 0) = decide (m.2.2.2.2.2.1 = 1)) : ¬ shipM m := fun e => h (decide_eq_decide.2 e.2.2.1)
theorem hello_last {k : Nat} {x : DStart} (hx : m.2.2.2.2.1[k]? = some x) (h0 : k + 1 = m.2.2.2.2.1.length) (h : m.2.1 < x.1) : ¬ helloM m := fun e => by
  have e3 := e.2.2.1
  rw [lastOk_of hx h0] at e3
  have := of_decide_eq_true e3
  omega
theorem lastOk_good {l : List DStart} {e : Int} {k : Nat} {x : DStart} (hx : l[k]? = some x) (h0 : k + 1 = l.length) (h : ¬ e < x.1) : lastOk l e = true := by
  rw [lastOk_of hx h0]; exact decide_eq_true (by omega)
end
end
section
set_option linter.unusedVariables false
set_option linter.unusedSimpArgs false
set_option maxRecDepth 4000
theorem fnOk124 : fnOk Try.prog 124 = true := by kernel_rfl
theorem fnOk125 : fnOk Try.prog 125 = true := by kernel_rfl
theorem fnOk126 : fnOk Try.prog 126 = true := by kernel_rfl
theorem fnOk127 : fnOk Try.prog 127 = true := by kernel_rfl
theorem fnOk134 : fnOk Try.prog 134 = true := by kernel_rfl
theorem fnOk146 : fnOk Try.prog 146 = true := by kernel_rfl
theorem fnOk147 : fnOk Try.prog 147 = true := by kernel_rfl
theorem tfk57_0 : ∀ F : Array Field, Try.prog.underlying 57 = some (.struct F) → ∀ f, F[0]? = some f → tk Try.prog f.type = some none := tfk_of (by kernel_rfl)
theorem tk90 : tk Try.prog 90 = some (some 2) := by kernel_rfl
theorem lwithin_ok (W : World) (d0 : Int) (h0 : inK .i64 d0) (d1 : Int) (h1 : inK .i64 d1) (d2 : Int) (h2 : inK .i64 d2) : CallR Try.prog 124 [.int .i64 d0, .int .i64 d1, .int .i64 d2] W (mnil) (fun v m' => v = .bool (decide (d1 ≤ d0 ∧ d0 ≤ d2))) := by
  have h0' := h0; simp only [inK] at h0'
  have h1' := h1; simp only [inK] at h1'
  have h2' := h2; simp only [inK] at h2'
  refine CallR.ofA (n := 15) Try.func124 rfl rfl rfl ?_
  refine VC.rs ?_
  refine VO.as ?_
  refine VO.k4 0 1 2 6 ?_
  refine VC.rs ?_
  refine VO.mv ?_
  refine VO.mv ?_
  refine VO.y rfl (.geq rfl rfl) ?_
  refine VO.mv ?_
  refine VO.dec (t := 10) rfl (fun hc1 => ?_) (fun hc1 => ?_)
  · -- T
    refine VO.gy rfl ⟨_, rfl, rfl⟩ (.mv rfl) ?_
    refine VO.gy rfl ⟨_, rfl, rfl⟩ (.mv rfl) ?_
    refine VO.gy rfl ⟨_, rfl, rfl⟩ (.leq rfl rfl) ?_
    refine VO.y rfl (.pT rfl rfl) ?_
    refine VO.as ?_
    refine VO.k4 0 1 2 6 ?_
    refine VC.ret ?_
    refine ⟨_, _, res_run (rs := [.tmp 6]) rfl (.tmp rfl .nil), fun W_ hI => out_of (l := []) hI [] rfl rfl (mle_refl _) (fun hS_ => ?_)⟩
    dsimp only [packV]
    all_goals (first | rfl | (first | exact congrArg Value.bool (decide_eq_false (by omega)).symm | exact congrArg Value.bool (decide_eq_decide.2 (by omega))))
  · -- F
    refine VO.gN ?_
    refine VO.gN ?_
    refine VO.gN ?_
    refine VO.y rfl (.pF rfl rfl) ?_
    refine VO.as ?_
    refine VO.k4 0 1 2 6 ?_
    refine VC.ret ?_
    refine ⟨_, _, res_run (rs := [.tmp 6]) rfl (.tmp rfl .nil), fun W_ hI => out_of (l := []) hI [] rfl rfl (mle_refl _) (fun hS_ => ?_)⟩
    dsimp only [packV]
    all_goals (first | rfl | (first | exact congrArg Value.bool (decide_eq_false (by omega)).symm | exact congrArg Value.bool (decide_eq_decide.2 (by omega))))
theorem lrole_ok (W : World) (d0 : Int) (h0 : inK .u8 d0) : CallR Try.prog 146 [.int .u8 d0] W (mnil) (fun v m' => v = .bool (decide (1 ≤ d0 ∧ d0 ≤ 3))) := by
  have h0' := h0; simp only [inK] at h0'
  refine CallR.ofA (n := 9) Try.func146 rfl rfl rfl ?_
  refine VC.rs ?_
  refine VO.as ?_
  refine VO.k2 0 2 ?_
  refine VC.rs ?_
  refine VO.mv ?_
  refine VO.y rfl (.geq rfl rfl) ?_
  refine VO.mv ?_
  refine VO.dec (t := 5) rfl (fun hc1 => ?_) (fun hc1 => ?_)
  · -- T
    refine VO.gy rfl ⟨_, rfl, rfl⟩ (.mv rfl) ?_
    refine VO.gy rfl ⟨_, rfl, rfl⟩ (.leq rfl rfl) ?_
    refine VO.y rfl (.pT rfl rfl) ?_
    refine VO.as ?_
    refine VO.k2 0 2 ?_
    refine VC.ret ?_
    refine ⟨_, _, res_run (rs := [.tmp 2]) rfl (.tmp rfl .nil), fun W_ hI => out_of (l := []) hI [] rfl rfl (mle_refl _) (fun hS_ => ?_)⟩
    dsimp only [packV]
    all_goals (first | rfl | (first | exact congrArg Value.bool (decide_eq_false (by omega)).symm | exact congrArg Value.bool (decide_eq_decide.2 (by omega))))
  · -- F
    refine VO.gN ?_
    refine VO.gN ?_
    refine VO.y rfl (.pF rfl rfl) ?_
    refine VO.as ?_
    refine VO.k2 0 2 ?_
    refine VC.ret ?_
    refine ⟨_, _, res_run (rs := [.tmp 2]) rfl (.tmp rfl .nil), fun W_ hI => out_of (l := []) hI [] rfl rfl (mle_refl _) (fun hS_ => ?_)⟩
    dsimp only [packV]
    all_goals (first | rfl | (first | exact congrArg Value.bool (decide_eq_false (by omega)).symm | exact congrArg Value.bool (decide_eq_decide.2 (by omega))))
theorem fin0_sCheck_ok {P : Prop} (h : P := by congr 1; first | exact (sCheck_arg (by omega)).symm | exact (sCheck_len ‹¬ decide _ = decide _›).symm | exact (sCheck_bad hs ‹d0[k]? = some _› (by omega)).symm | exact (sCheck_good (by omega) (by omega) ‹¬ ¬ decide _ = decide _› (hs.2 (by rw [List.drop_of_length_le (by omega)]; trivial))).symm) : P := h
theorem sCheck_ok (W : World) {v0 : Value} {d0 : List DStart} (h0 : Rd (.sl TStart) (wm W) [v0] d0) (d1 : Int) (h1 : inK .i64 d1) : CallR Try.prog 134 [v0, .int .i64 d1] W (mnil) (fun v m' => v = .int .i64 (sCheck d0 d1)) := by
  obtain ⟨A0, c0, rfl, l0, k0⟩ := h0.slice
  simp only [maxLen] at k0
  have h1' := h1; simp only [inK] at h1'
  refine CallR.ofA (n := 64) Try.func134 rfl rfl rfl ?_
  refine VC.rs ?_
  refine VO.as ?_
  refine VO.k3 0 1 4 ?_
  refine VC.seq ?_
  refine VC.rs ?_
  refine VO.mv ?_
  refine VO.y rfl (.lss rfl rfl) ?_
  refine VO.mv ?_
  refine VO.dec (t := 10) rfl (fun hc1 => ?_) (fun hc1 => ?_)
  · -- T
    refine VO.gN ?_
    refine VO.gN ?_
    refine VO.y rfl (.pT rfl rfl) ?_
    refine VO.mv ?_
    refine VO.gN ?_
    refine VO.gN ?_
    refine VO.gN ?_
    refine VO.gN ?_
    refine VO.gN ?_
    refine VO.gN ?_
    refine VO.y rfl (.pT rfl rfl) ?_
    refine VO.k4 0 1 4 21 ?_
    refine VC.condT rfl ?_
    refine VC.rs ?_
    refine VO.as ?_
    refine VO.kp [0] [(0, wm W)] ?_
    refine VO.k4 0 1 4 21 ?_
    refine VC.ret ?_
    refine outR ?_
    refine ⟨_, _, res_run (rs := [.tmp 4]) rfl (.tmp rfl .nil), fun W_ hI => out_of (l := []) hI [] rfl rfl (mle_refl _) (fun hS_ => ?_)⟩
    dsimp only [packV]
    all_goals (first | rfl | (exact fin0_sCheck_ok))
  · -- F
    refine VO.gy rfl ⟨_, rfl, rfl⟩ (.mv rfl) ?_
    refine VO.gy rfl ⟨_, rfl, rfl⟩ (.gtr rfl rfl) ?_
    refine VO.y rfl (.pF rfl rfl) ?_
    refine VO.mv ?_
    refine VO.dec (t := 14) rfl (fun hc2 => ?_) (fun hc2 => ?_)
    · -- FT
      refine VO.gN ?_
      refine VO.gN ?_
      refine VO.gN ?_
      refine VO.gN ?_
      refine VO.gN ?_
      refine VO.gN ?_
      refine VO.y rfl (.pT rfl rfl) ?_
      refine VO.k4 0 1 4 21 ?_
      refine VC.condT rfl ?_
      refine VC.rs ?_
      refine VO.as ?_
      refine VO.kp [0] [(0, wm W)] ?_
      refine VO.k4 0 1 4 21 ?_
      refine VC.ret ?_
      refine outR ?_
      refine ⟨_, _, res_run (rs := [.tmp 4]) rfl (.tmp rfl .nil), fun W_ hI => out_of (l := []) hI [] rfl rfl (mle_refl _) (fun hS_ => ?_)⟩
      dsimp only [packV]
      all_goals (first | rfl | (exact fin0_sCheck_ok))
    · -- FF
      refine VO.gy rfl ⟨_, rfl, rfl⟩ (.mv rfl) ?_
      refine VO.gy rfl ⟨_, rfl, rfl⟩ (.lenS rfl tsl70) ?_
      refine VO.gy rfl ⟨_, rfl, rfl⟩ (.eql rfl rfl) ?_
      refine VO.gy rfl ⟨_, rfl, rfl⟩ (.mv rfl) ?_
      refine VO.gy rfl ⟨_, rfl, rfl⟩ (.eql rfl rfl) ?_
      refine VO.gy rfl ⟨_, rfl, rfl⟩ (.bneq rfl rfl Try.underlying4) ?_
      refine VO.y rfl (.pF rfl rfl) ?_
      refine VO.k4 0 1 4 21 ?_
      refine VC.cond rfl (fun hc3 => ?_) (fun hc3 => ?_)
      · -- FFT
        refine VC.rs ?_
        refine VO.as ?_
        refine VO.kp [0] [(0, wm W)] ?_
        refine VO.k4 0 1 4 21 ?_
        refine VC.ret ?_
        refine outR ?_
        refine ⟨_, _, res_run (rs := [.tmp 4]) rfl (.tmp rfl .nil), fun W_ hI => out_of (l := []) hI [] rfl rfl (mle_refl _) (fun hS_ => ?_)⟩
        dsimp only [packV]
        all_goals (first | rfl | (exact fin0_sCheck_ok))
      · -- FFF
        refine VC.skip ?_
        refine outN ?_
        refine VC.rs ?_
        refine VO.y rfl (.bst (cs := [Value.int .i64 (0), Value.int .i64 (0)]) rfl tst90 tz90 rfl) ?_
        refine VO.alloc 105 rfl tz90 (fun g4 => ?_)
        refine VO.store (k := 2) (c' := [Value.int .i64 (0), Value.int .i64 (0)]) 105 rfl rfl (.inl tk90) rfl rfl rfl rfl rfl ?_
        refine VO.kp [105, 0] [(105, mone g4 (.cells [Value.int .i64 (0), Value.int .i64 (0)].toArray 90 (0, 0))), (0, wm W)] ?_
        refine VO.k5 0 1 4 5 21 ?_
        refine VC.seq ?_
        refine VC.rs ?_
        refine VO.mv ?_
        refine VO.y rfl (.lenS rfl tsl70) ?_
        refine VO.mv ?_
        refine VO.k8 0 1 4 5 21 23 24 25 ?_
        refine VC.block ?_
        refine VC.loop (G := Nat × Int × Int) (fun g => [(25, Value.int .i64 ((((g.1) : Nat) : Int))), (0, Value.slice A0 (d0.length) (c0)), (1, Value.int .i64 (d1)), (5, Value.pointer (some ⟨g4, 0, none⟩)), (21, Value.bool (decide (¬ (decide (((d0.length : Nat) : Int) = 0)) = (decide (d1 = 0))))), (23, Value.slice A0 (d0.length) (c0)), (24, Value.int .i64 (((d0.length : Nat) : Int)))]) (fun g => [(105, mone g4 (.cells [Value.int .i64 ((g.2.1)), Value.int .i64 ((g.2.2))].toArray 90 (0, 0))), (0, wm W)]) (fun g => ((g.1) ≤ d0.length) ∧ (sGo d1 0 0 0 d0 ↔ sGo d1 (g.2.1) (g.2.2) (g.1) (d0.drop (g.1)))) (fun g => d0.length - (g.1)) (0, 0, 0) (⟨by omega, by exact Iff.rfl⟩) ⟨⟨rfl, rfl, rfl, rfl, rfl, rfl, rfl, trivial⟩, fun _ h => h.sub [105, 0]⟩ ?_
        rintro ⟨k, le, lf⟩ ⟨hk, hs⟩
        replace hk : k ≤ d0.length := hk
        replace hs : sGo d1 0 0 0 d0 ↔ sGo d1 le lf k (d0.drop k) := hs
        show VC _ _ _ _ _ [(25, Value.int .i64 (((k : Nat) : Int))), (0, Value.slice A0 (d0.length) (c0)), (1, Value.int .i64 (d1)), (5, Value.pointer (some ⟨g4, 0, none⟩)), (21, Value.bool (decide (¬ (decide (((d0.length : Nat) : Int) = 0)) = (decide (d1 = 0))))), (23, Value.slice A0 (d0.length) (c0)), (24, Value.int .i64 (((d0.length : Nat) : Int)))] [(105, mone g4 (.cells [Value.int .i64 (le), Value.int .i64 (lf)].toArray 90 (0, 0))), (0, wm W)]
        refine VC.rs ?_
        refine VO.y rfl (.lss rfl rfl) ?_
        refine VO.k8 0 1 5 21 23 24 25 26 ?_
        refine VC.seq ?_
        refine VC.cond rfl (fun hc6 => ?_) (fun hc6 => ?_)
        · -- FFFT
          refine VC.skip ?_
          refine outN ?_
          refine VC.seq ?_
          refine VC.block ?_
          refine VC.rs ?_
          refine VO.mv ?_
          obtain ⟨x7, hx7⟩ : ∃ z_, (d0)[k]? = some z_ := ⟨_, List.getElem?_eq_getElem bd⟩
          obtain ⟨gg7, oo7, ec7, ea7, hce7, hre7⟩ := h0.elem hx7
          cases ea7
          obtain ⟨rfl, q7_0, q7_1⟩ := open_Start (x0 := x7.1) (x1 := x7.2) hre7
          simp only [inK] at q7_0
          simp only [inK] at q7_1
          refine VO.y rfl (.ixI k rfl rfl tsl70 rfl bd) ?_
          refine VO.y rfl (.ldA 0 rfl tk90 rfl hce7) ?_
          refine VO.alloc 109 rfl tz90 (fun g8 => ?_)
          refine VO.as ?_
          refine VO.store (k := 2) (c' := [Value.int .i64 (x7.1), Value.int .i64 (x7.2)]) 109 rfl rfl (.inl tk90) rfl rfl rfl rfl rfl ?_
          refine VO.kp [109, 105, 0] [(109, mone g8 (.cells [Value.int .i64 (x7.1), Value.int .i64 (x7.2)].toArray 90 (0, 0))), (105, mone g4 (.cells [Value.int .i64 (le), Value.int .i64 (lf)].toArray 90 (0, 0))), (0, wm W)] ?_
          refine VO.k10 0 1 5 6 7 21 23 24 25 26 ?_
          refine VC.seq ?_
          refine VC.rs ?_
          refine VO.y rfl (.fa rfl tst90 rfl) ?_
          refine VO.y rfl (.ld1 109 rfl tk3 rfl (cellsAt_one rfl rfl)) ?_
          refine VO.y rfl (.fa rfl tst90 rfl) ?_
          refine VO.y rfl (.ld1 105 rfl tk3 rfl (cellsAt_one rfl rfl)) ?_
          refine VO.y rfl (.leq rfl rfl) ?_
          refine VO.mv ?_
          refine VO.dec (t := 35) rfl (fun hc10 => ?_) (fun hc10 => ?_)
          · -- FFFTT
            refine VO.gN ?_
            refine VO.gN ?_
            refine VO.gN ?_
            refine VO.y rfl (.pT rfl rfl) ?_
            refine VO.mv ?_
            refine VO.gN ?_
            refine VO.gN ?_
            refine VO.gN ?_
            refine VO.gN ?_
            refine VO.gN ?_
            refine VO.y rfl (.pT rfl rfl) ?_
            refine VO.mv ?_
            refine VO.gN ?_
            refine VO.gN ?_
            refine VO.gN ?_
            refine VO.gN ?_
            refine VO.y rfl (.pT rfl rfl) ?_
            refine VO.mv ?_
            refine VO.gN ?_
            refine VO.gN ?_
            refine VO.gN ?_
            refine VO.gn rfl (.inr ⟨_, rfl, rfl⟩) ?_
            refine VO.gn rfl (.inr ⟨_, rfl, rfl⟩) ?_
            refine VO.gn rfl (.inr ⟨_, rfl, rfl⟩) ?_
            refine VO.gN ?_
            refine VO.y rfl (.pT rfl rfl) ?_
            refine VO.k11 0 1 5 6 7 21 23 24 25 26 61 ?_
            refine VC.condT rfl ?_
            refine VC.rs ?_
            refine VO.as ?_
            refine VO.k12 0 1 4 5 6 7 21 23 24 25 26 61 ?_
            refine VC.ret ?_
            refine outR ?_
            refine outBR ?_
            refine outR ?_
            refine outR ?_
            refine outBR ?_
            refine outR ?_
            refine ⟨_, _, res_run (rs := [.tmp 4]) rfl (.tmp rfl .nil), fun W_ hI => out_of (l := []) hI [] rfl rfl (mle_refl _) (fun hS_ => ?_)⟩
            dsimp only [packV]
            all_goals (first | rfl | (exact fin0_sCheck_ok))
          · -- FFFTF
            refine VO.gy rfl ⟨_, rfl, rfl⟩ (.fa rfl tst90 rfl) ?_
            refine VO.gy rfl ⟨_, rfl, rfl⟩ (.ld1 109 rfl tk3 rfl (cellsAt_one rfl rfl)) ?_
            refine VO.gy rfl ⟨_, rfl, rfl⟩ (.gtr rfl rfl) ?_
            refine VO.y rfl (.pF rfl rfl) ?_
            refine VO.mv ?_
            refine VO.dec (t := 40) rfl (fun hc11 => ?_) (fun hc11 => ?_)
            · -- FFFTFT
              refine VO.gN ?_
              refine VO.gN ?_
              refine VO.gN ?_
              refine VO.gN ?_
              refine VO.gN ?_
              refine VO.y rfl (.pT rfl rfl) ?_
              refine VO.mv ?_
              refine VO.gN ?_
              refine VO.gN ?_
              refine VO.gN ?_
              refine VO.gN ?_
              refine VO.y rfl (.pT rfl rfl) ?_
              refine VO.mv ?_
              refine VO.gN ?_
              refine VO.gN ?_
              refine VO.gN ?_
              refine VO.gn rfl (.inr ⟨_, rfl, rfl⟩) ?_
              refine VO.gn rfl (.inr ⟨_, rfl, rfl⟩) ?_
              refine VO.gn rfl (.inr ⟨_, rfl, rfl⟩) ?_
              refine VO.gN ?_
              refine VO.y rfl (.pT rfl rfl) ?_
              refine VO.k11 0 1 5 6 7 21 23 24 25 26 61 ?_
              refine VC.condT rfl ?_
              refine VC.rs ?_
              refine VO.as ?_
              refine VO.k12 0 1 4 5 6 7 21 23 24 25 26 61 ?_
              refine VC.ret ?_
              refine outR ?_
              refine outBR ?_
              refine outR ?_
              refine outR ?_
              refine outBR ?_
              refine outR ?_
              refine ⟨_, _, res_run (rs := [.tmp 4]) rfl (.tmp rfl .nil), fun W_ hI => out_of (l := []) hI [] rfl rfl (mle_refl _) (fun hS_ => ?_)⟩
              dsimp only [packV]
              all_goals (first | rfl | (exact fin0_sCheck_ok))
            · -- FFFTFF
              refine VO.gy rfl ⟨_, rfl, rfl⟩ (.fa rfl tst90 rfl) ?_
              refine VO.gy rfl ⟨_, rfl, rfl⟩ (.ld1 109 rfl tk3 rfl (cellsAt_one rfl rfl)) ?_
              refine VO.gy rfl ⟨_, rfl, rfl⟩ (.fa rfl tst90 rfl) ?_
              refine VO.gy rfl ⟨_, rfl, rfl⟩ (.ld1 105 rfl tk3 rfl (cellsAt_one rfl rfl)) ?_
              refine VO.gy rfl ⟨_, rfl, rfl⟩ (.leq rfl rfl) ?_
              refine VO.y rfl (.pF rfl rfl) ?_
              refine VO.mv ?_
              refine VO.dec (t := 47) rfl (fun hc12 => ?_) (fun hc12 => ?_)
              · -- FFFTFFT
                refine VO.gN ?_
                refine VO.gN ?_
                refine VO.gN ?_
                refine VO.gN ?_
                refine VO.y rfl (.pT rfl rfl) ?_
                refine VO.mv ?_
                refine VO.gN ?_
                refine VO.gN ?_
                refine VO.gN ?_
                refine VO.gn rfl (.inr ⟨_, rfl, rfl⟩) ?_
                refine VO.gn rfl (.inr ⟨_, rfl, rfl⟩) ?_
                refine VO.gn rfl (.inr ⟨_, rfl, rfl⟩) ?_
                refine VO.gN ?_
                refine VO.y rfl (.pT rfl rfl) ?_
                refine VO.k11 0 1 5 6 7 21 23 24 25 26 61 ?_
                refine VC.condT rfl ?_
                refine VC.rs ?_
                refine VO.as ?_
                refine VO.k12 0 1 4 5 6 7 21 23 24 25 26 61 ?_
                refine VC.ret ?_
                refine outR ?_
                refine outBR ?_
                refine outR ?_
                refine outR ?_
                refine outBR ?_
                refine outR ?_
                refine ⟨_, _, res_run (rs := [.tmp 4]) rfl (.tmp rfl .nil), fun W_ hI => out_of (l := []) hI [] rfl rfl (mle_refl _) (fun hS_ => ?_)⟩
                dsimp only [packV]
                all_goals (first | rfl | (exact fin0_sCheck_ok))
              · -- FFFTFFF
                refine VO.gy rfl ⟨_, rfl, rfl⟩ (.fa rfl tst90 rfl) ?_
                refine VO.gy rfl ⟨_, rfl, rfl⟩ (.ld1 109 rfl tk3 rfl (cellsAt_one rfl rfl)) ?_
                refine VO.gy rfl ⟨_, rfl, rfl⟩ (.mv rfl) ?_
                refine VO.gy rfl ⟨_, rfl, rfl⟩ (.gtr rfl rfl) ?_
                refine VO.y rfl (.pF rfl rfl) ?_
                refine VO.mv ?_
                refine VO.dec (t := 53) rfl (fun hc13 => ?_) (fun hc13 => ?_)
                · -- FFFTFFFT
                  refine VO.gN ?_
                  refine VO.gN ?_
                  refine VO.gN ?_
                  refine VO.gn rfl (.inr ⟨_, rfl, rfl⟩) ?_
                  refine VO.gn rfl (.inr ⟨_, rfl, rfl⟩) ?_
                  refine VO.gn rfl (.inr ⟨_, rfl, rfl⟩) ?_
                  refine VO.gN ?_
                  refine VO.y rfl (.pT rfl rfl) ?_
                  refine VO.k11 0 1 5 6 7 21 23 24 25 26 61 ?_
                  refine VC.condT rfl ?_
                  refine VC.rs ?_
                  refine VO.as ?_
                  refine VO.k12 0 1 4 5 6 7 21 23 24 25 26 61 ?_
                  refine VC.ret ?_
                  refine outR ?_
                  refine outBR ?_
                  refine outR ?_
                  refine outR ?_
                  refine outBR ?_
                  refine outR ?_
                  refine ⟨_, _, res_run (rs := [.tmp 4]) rfl (.tmp rfl .nil), fun W_ hI => out_of (l := []) hI [] rfl rfl (mle_refl _) (fun hS_ => ?_)⟩
                  dsimp only [packV]
                  all_goals (first | rfl | (exact fin0_sCheck_ok))
                · -- FFFTFFFF
                  refine VO.gy rfl ⟨_, rfl, rfl⟩ (.mv rfl) ?_
                  refine VO.gy rfl ⟨_, rfl, rfl⟩ (.eql rfl rfl) ?_
                  refine VO.gy rfl ⟨_, rfl, rfl⟩ (.mv rfl) ?_
                  refine VO.dec (t := 56) rfl (fun hc14 => ?_) (fun hc14 => ?_)
                  · -- FFFTFFFFT
                    refine VO.gy rfl ⟨_, rfl, rfl⟩ (.fa rfl tst90 rfl) ?_
                    refine VO.gy rfl ⟨_, rfl, rfl⟩ (.ld1 109 rfl tk3 rfl (cellsAt_one rfl rfl)) ?_
                    refine VO.gy rfl ⟨_, rfl, rfl⟩ (.neq rfl rfl) ?_
                    refine VO.gy rfl ⟨_, rfl, rfl⟩ (.pT rfl rfl) ?_
                    refine VO.y rfl (.pF rfl rfl) ?_
                    refine VO.k11 0 1 5 6 7 21 23 24 25 26 61 ?_
                    refine VC.cond rfl (fun hc15 => ?_) (fun hc15 => ?_)
                    · -- FFFTFFFFTT
                      refine VC.rs ?_
                      refine VO.as ?_
                      refine VO.k12 0 1 4 5 6 7 21 23 24 25 26 61 ?_
                      refine VC.ret ?_
                      refine outR ?_
                      refine outBR ?_
                      refine outR ?_
                      refine outR ?_
                      refine outBR ?_
                      refine outR ?_
                      refine ⟨_, _, res_run (rs := [.tmp 4]) rfl (.tmp rfl .nil), fun W_ hI => out_of (l := []) hI [] rfl rfl (mle_refl _) (fun hS_ => ?_)⟩
                      dsimp only [packV]
                      all_goals (first | rfl | (exact fin0_sCheck_ok))
                    · -- FFFTFFFFTF
                      refine VC.skip ?_
                      refine outN ?_
                      refine VC.reg ?_
                      refine VO.y rfl (.ldA 109 rfl tk90 rfl (cellsAt_one rfl rfl)) ?_
                      refine VO.store (k := 2) (c' := [Value.int .i64 (x7.1), Value.int .i64 (x7.2)]) 105 rfl rfl (.inl tk90) rfl rfl rfl rfl rfl ?_
                      refine VO.k11 0 1 5 6 7 21 23 24 25 26 61 ?_
                      refine outBN ?_
                      refine outN ?_
                      refine VC.reg ?_
                      refine VO.y rfl (.add (c := ((k + 1 : Nat) : Int)) rfl rfl (by omega) ⟨bd, bd⟩) ?_
                      refine VO.mv ?_
                      refine VO.kp [109, 105, 0] [(109, mone g8 (.cells [Value.int .i64 (x7.1), Value.int .i64 (x7.2)].toArray 90 (0, 0))), (105, mone g4 (.cells [Value.int .i64 (x7.1), Value.int .i64 (x7.2)].toArray 90 (0, 0))), (0, wm W)] ?_
                      refine VO.k11 0 1 5 6 7 21 23 24 25 26 61 ?_
                      exact outN ⟨⟨k + 1, x7.1, x7.2⟩, ⟨by omega, by dsimp only; exact hs.trans (sGo_step ‹d0[k]? = some _› (by omega) (by omega) (by omega) (by omega) (by omega))⟩, bd, ⟨⟨rfl, rfl, rfl, rfl, rfl, rfl, rfl, trivial⟩, fun _ h => Inv.sub h [105, 0]⟩⟩
                  · -- FFFTFFFFF
                    refine VO.gN ?_
                    refine VO.gN ?_
                    refine VO.gN ?_
                    refine VO.gy rfl ⟨_, rfl, rfl⟩ (.pF rfl rfl) ?_
                    refine VO.y rfl (.pF rfl rfl) ?_
                    refine VO.k11 0 1 5 6 7 21 23 24 25 26 61 ?_
                    refine VC.condF rfl ?_
                    refine VC.skip ?_
                    refine outN ?_
                    refine VC.reg ?_
                    refine VO.y rfl (.ldA 109 rfl tk90 rfl (cellsAt_one rfl rfl)) ?_
                    refine VO.store (k := 2) (c' := [Value.int .i64 (x7.1), Value.int .i64 (x7.2)]) 105 rfl rfl (.inl tk90) rfl rfl rfl rfl rfl ?_
                    refine VO.k11 0 1 5 6 7 21 23 24 25 26 61 ?_
                    refine outBN ?_
                    refine outN ?_
                    refine VC.reg ?_
                    refine VO.y rfl (.add (c := ((k + 1 : Nat) : Int)) rfl rfl (by omega) ⟨bd, bd⟩) ?_
                    refine VO.mv ?_
                    refine VO.kp [109, 105, 0] [(109, mone g8 (.cells [Value.int .i64 (x7.1), Value.int .i64 (x7.2)].toArray 90 (0, 0))), (105, mone g4 (.cells [Value.int .i64 (x7.1), Value.int .i64 (x7.2)].toArray 90 (0, 0))), (0, wm W)] ?_
                    refine VO.k11 0 1 5 6 7 21 23 24 25 26 61 ?_
                    exact outN ⟨⟨k + 1, x7.1, x7.2⟩, ⟨by omega, by dsimp only; exact hs.trans (sGo_step ‹d0[k]? = some _› (by omega) (by omega) (by omega) (by omega) (by omega))⟩, bd, ⟨⟨rfl, rfl, rfl, rfl, rfl, rfl, rfl, trivial⟩, fun _ h => Inv.sub h [105, 0]⟩⟩
        · -- FFFF
          refine VC.exit ?_
          refine outE ?_
          refine outE ?_
          refine outBB ?_
          refine outN ?_
          refine VC.rs ?_
          refine VO.as ?_
          refine VO.kp [105, 0] [(105, mone g4 (.cells [Value.int .i64 (le), Value.int .i64 (lf)].toArray 90 (0, 0))), (0, wm W)] ?_
          refine VO.k9 0 1 4 5 21 23 24 25 26 ?_
          refine VC.ret ?_
          refine ⟨_, _, res_run (rs := [.tmp 4]) rfl (.tmp rfl .nil), fun W_ hI => out_of (l := []) hI [] rfl rfl (mle_refl _) (fun hS_ => ?_)⟩
          dsimp only [packV]
          all_goals (first | rfl | (exact fin0_sCheck_ok))
theorem bare_ok (W : World) {v0 : List Value} {d0 : DMessage} (h0 : Rd TMessage (wm W) v0 d0) : CallR Try.prog 147 [.agg v0.toArray] W (mnil) (fun v m' => v = .bool (decide (bareM d0))) := by
  obtain ⟨p0_A4, p0_c4, p0_A7, p0_c7, rfl, p0_0, p0_1, p0_2, p0_3, p0_4, p0_5, p0_6, p0_7⟩ := open_Message (x0 := d0.1) (x1 := d0.2.1) (x2 := d0.2.2.1) (x3 := d0.2.2.2.1) (x4 := d0.2.2.2.2.1) (x5 := d0.2.2.2.2.2.1) (x6 := d0.2.2.2.2.2.2.1) (x7 := d0.2.2.2.2.2.2.2) h0
  simp only [inK] at p0_0
  simp only [inK] at p0_1
  simp only [inK] at p0_2
  simp only [inK] at p0_3
  have p0_r4 := Rd.room p0_4
  simp only [inK] at p0_5
  simp only [inK] at p0_6
  have p0_r7 := Rd.room p0_7
  refine CallR.ofA (n := 33) Try.func147 rfl rfl rfl ?_
  refine VC.rs ?_
  refine VO.box (cs := [Value.int .i64 (d0.1), Value.int .i64 (d0.2.1), Value.int .u8 (d0.2.2.1), Value.int .i64 (d0.2.2.2.1), Value.slice p0_A4 (d0.2.2.2.2.1.length) (p0_c4), Value.int .i64 (d0.2.2.2.2.2.1), Value.int .i64 (d0.2.2.2.2.2.2.1), Value.slice p0_A7 (d0.2.2.2.2.2.2.2.length) (p0_c7)]) 102 rfl rfl rfl (fun g1 => ?_)
  refine VO.as ?_
  refine VO.k3 0 1 2 ?_
  refine VC.rs ?_
  refine VO.y rfl (.fa rfl tst72 rfl) ?_
  refine VO.y rfl (.ld1 102 rfl tk69 rfl (cellsAt_one rfl rfl)) ?_
  refine VO.y rfl (.eql rfl rfl) ?_
  refine VO.mv ?_
  refine VO.dec (t := 6) rfl (fun hc3 => ?_) (fun hc3 => ?_)
  · -- T
    refine VO.gy rfl ⟨_, rfl, rfl⟩ (.fa rfl tst72 rfl) ?_
    refine VO.gy rfl ⟨_, rfl, rfl⟩ (.ld1 102 rfl tk3 rfl (cellsAt_one rfl rfl)) ?_
    refine VO.gy rfl ⟨_, rfl, rfl⟩ (.eql rfl rfl) ?_
    refine VO.y rfl (.pT rfl rfl) ?_
    refine VO.mv ?_
    refine VO.dec (t := 11) rfl (fun hc4 => ?_) (fun hc4 => ?_)
    · -- TT
      refine VO.gy rfl ⟨_, rfl, rfl⟩ (.fa rfl tst72 rfl) ?_
      refine VO.gy rfl ⟨_, rfl, rfl⟩ (.ld1 102 rfl tk70 rfl (cellsAt_one rfl rfl)) ?_
      refine VO.gy rfl ⟨_, rfl, rfl⟩ (.lenS rfl tsl70) ?_
      refine VO.gy rfl ⟨_, rfl, rfl⟩ (.eql rfl rfl) ?_
      refine VO.y rfl (.pT rfl rfl) ?_
      refine VO.mv ?_
      refine VO.dec (t := 17) rfl (fun hc5 => ?_) (fun hc5 => ?_)
      · -- TTT
        refine VO.gy rfl ⟨_, rfl, rfl⟩ (.fa rfl tst72 rfl) ?_
        refine VO.gy rfl ⟨_, rfl, rfl⟩ (.ld1 102 rfl tk3 rfl (cellsAt_one rfl rfl)) ?_
        refine VO.gy rfl ⟨_, rfl, rfl⟩ (.eql rfl rfl) ?_
        refine VO.y rfl (.pT rfl rfl) ?_
        refine VO.mv ?_
        refine VO.dec (t := 22) rfl (fun hc6 => ?_) (fun hc6 => ?_)
        · -- TTTT
          refine VO.gy rfl ⟨_, rfl, rfl⟩ (.fa rfl tst72 rfl) ?_
          refine VO.gy rfl ⟨_, rfl, rfl⟩ (.ld1 102 rfl tk3 rfl (cellsAt_one rfl rfl)) ?_
          refine VO.gy rfl ⟨_, rfl, rfl⟩ (.eql rfl rfl) ?_
          refine VO.y rfl (.pT rfl rfl) ?_
          refine VO.mv ?_
          refine VO.dec (t := 27) rfl (fun hc7 => ?_) (fun hc7 => ?_)
          · -- TTTTT
            refine VO.gy rfl ⟨_, rfl, rfl⟩ (.fa rfl tst72 rfl) ?_
            refine VO.gy rfl ⟨_, rfl, rfl⟩ (.ld1 102 rfl tk61 rfl (cellsAt_one rfl rfl)) ?_
            refine VO.gy rfl ⟨_, rfl, rfl⟩ (.lenS rfl tsl61) ?_
            refine VO.gy rfl ⟨_, rfl, rfl⟩ (.eql rfl rfl) ?_
            refine VO.y rfl (.pT rfl rfl) ?_
            refine VO.as ?_
            refine VO.k3 0 1 2 ?_
            refine VC.ret ?_
            refine ⟨_, _, res_run (rs := [.tmp 2]) rfl (.tmp rfl .nil), fun W_ hI => out_of (l := []) hI [] rfl rfl (mle_refl _) (fun hS_ => ?_)⟩
            dsimp only [packV]
            all_goals (first | rfl | (first | exact congrArg Value.bool (decide_eq_false (by unfold bareM; omega)).symm | exact congrArg Value.bool (decide_eq_decide.2 (by unfold bareM; omega))))
          · -- TTTTF
            refine VO.gN ?_
            refine VO.gN ?_
            refine VO.gN ?_
            refine VO.gN ?_
            refine VO.y rfl (.pF rfl rfl) ?_
            refine VO.as ?_
            refine VO.k3 0 1 2 ?_
            refine VC.ret ?_
            refine ⟨_, _, res_run (rs := [.tmp 2]) rfl (.tmp rfl .nil), fun W_ hI => out_of (l := []) hI [] rfl rfl (mle_refl _) (fun hS_ => ?_)⟩
            dsimp only [packV]
            all_goals (first | rfl | (first | exact congrArg Value.bool (decide_eq_false (by unfold bareM; omega)).symm | exact congrArg Value.bool (decide_eq_decide.2 (by unfold bareM; omega))))
        · -- TTTF
          refine VO.gN ?_
          refine VO.gN ?_
          refine VO.gN ?_
          refine VO.y rfl (.pF rfl rfl) ?_
          refine VO.mv ?_
          refine VO.gN ?_
          refine VO.gN ?_
          refine VO.gN ?_
          refine VO.gN ?_
          refine VO.y rfl (.pF rfl rfl) ?_
          refine VO.as ?_
          refine VO.k3 0 1 2 ?_
          refine VC.ret ?_
          refine ⟨_, _, res_run (rs := [.tmp 2]) rfl (.tmp rfl .nil), fun W_ hI => out_of (l := []) hI [] rfl rfl (mle_refl _) (fun hS_ => ?_)⟩
          dsimp only [packV]
          all_goals (first | rfl | (first | exact congrArg Value.bool (decide_eq_false (by unfold bareM; omega)).symm | exact congrArg Value.bool (decide_eq_decide.2 (by unfold bareM; omega))))
      · -- TTF
        refine VO.gN ?_
        refine VO.gN ?_
        refine VO.gN ?_
        refine VO.y rfl (.pF rfl rfl) ?_
        refine VO.mv ?_
        refine VO.gN ?_
        refine VO.gN ?_
        refine VO.gN ?_
        refine VO.y rfl (.pF rfl rfl) ?_
        refine VO.mv ?_
        refine VO.gN ?_
        refine VO.gN ?_
        refine VO.gN ?_
        refine VO.gN ?_
        refine VO.y rfl (.pF rfl rfl) ?_
        refine VO.as ?_
        refine VO.k3 0 1 2 ?_
        refine VC.ret ?_
        refine ⟨_, _, res_run (rs := [.tmp 2]) rfl (.tmp rfl .nil), fun W_ hI => out_of (l := []) hI [] rfl rfl (mle_refl _) (fun hS_ => ?_)⟩
        dsimp only [packV]
        all_goals (first | rfl | (first | exact congrArg Value.bool (decide_eq_false (by unfold bareM; omega)).symm | exact congrArg Value.bool (decide_eq_decide.2 (by unfold bareM; omega))))
    · -- TF
      refine VO.gN ?_
      refine VO.gN ?_
      refine VO.gN ?_
      refine VO.gN ?_
      refine VO.y rfl (.pF rfl rfl) ?_
      refine VO.mv ?_
      refine VO.gN ?_
      refine VO.gN ?_
      refine VO.gN ?_
      refine VO.y rfl (.pF rfl rfl) ?_
      refine VO.mv ?_
      refine VO.gN ?_
      refine VO.gN ?_
      refine VO.gN ?_
      refine VO.y rfl (.pF rfl rfl) ?_
      refine VO.mv ?_
      refine VO.gN ?_
      refine VO.gN ?_
      refine VO.gN ?_
      refine VO.gN ?_
      refine VO.y rfl (.pF rfl rfl) ?_
      refine VO.as ?_
      refine VO.k3 0 1 2 ?_
      refine VC.ret ?_
      refine ⟨_, _, res_run (rs := [.tmp 2]) rfl (.tmp rfl .nil), fun W_ hI => out_of (l := []) hI [] rfl rfl (mle_refl _) (fun hS_ => ?_)⟩
      dsimp only [packV]
      all_goals (first | rfl | (first | exact congrArg Value.bool (decide_eq_false (by unfold bareM; omega)).symm | exact congrArg Value.bool (decide_eq_decide.2 (by unfold bareM; omega))))
  · -- F
    refine VO.gN ?_
    refine VO.gN ?_
    refine VO.gN ?_
    refine VO.y rfl (.pF rfl rfl) ?_
    refine VO.mv ?_
    refine VO.gN ?_
    refine VO.gN ?_
    refine VO.gN ?_
    refine VO.gN ?_
    refine VO.y rfl (.pF rfl rfl) ?_
    refine VO.mv ?_
    refine VO.gN ?_
    refine VO.gN ?_
    refine VO.gN ?_
    refine VO.y rfl (.pF rfl rfl) ?_
    refine VO.mv ?_
    refine VO.gN ?_
    refine VO.gN ?_
    refine VO.gN ?_
    refine VO.y rfl (.pF rfl rfl) ?_
    refine VO.mv ?_
    refine VO.gN ?_
    refine VO.gN ?_
    refine VO.gN ?_
    refine VO.gN ?_
    refine VO.y rfl (.pF rfl rfl) ?_
    refine VO.as ?_
    refine VO.k3 0 1 2 ?_
    refine VC.ret ?_
    refine ⟨_, _, res_run (rs := [.tmp 2]) rfl (.tmp rfl .nil), fun W_ hI => out_of (l := []) hI [] rfl rfl (mle_refl _) (fun hS_ => ?_)⟩
    dsimp only [packV]
    all_goals (first | rfl | (first | exact congrArg Value.bool (decide_eq_false (by unfold bareM; omega)).symm | exact congrArg Value.bool (decide_eq_decide.2 (by unfold bareM; omega))))
theorem lack_ok (W : World) {v0 : List Value} {d0 : DMessage} (h0 : Rd TMessage (wm W) v0 d0) : CallR Try.prog 127 [.agg v0.toArray] W (mnil) (fun v m' => v = .bool (decide (ackM d0))) := by
  obtain ⟨p0_A4, p0_c4, p0_A7, p0_c7, rfl, p0_0, p0_1, p0_2, p0_3, p0_4, p0_5, p0_6, p0_7⟩ := open_Message (x0 := d0.1) (x1 := d0.2.1) (x2 := d0.2.2.1) (x3 := d0.2.2.2.1) (x4 := d0.2.2.2.2.1) (x5 := d0.2.2.2.2.2.1) (x6 := d0.2.2.2.2.2.2.1) (x7 := d0.2.2.2.2.2.2.2) h0
  simp only [inK] at p0_0
  simp only [inK] at p0_1
  simp only [inK] at p0_2
  simp only [inK] at p0_3
  have p0_r4 := Rd.room p0_4
  simp only [inK] at p0_5
  simp only [inK] at p0_6
  have p0_r7 := Rd.room p0_7
  refine CallR.ofA (n := 13) Try.func127 rfl rfl rfl ?_
  refine VC.rs ?_
  refine VO.box (cs := [Value.int .i64 (d0.1), Value.int .i64 (d0.2.1), Value.int .u8 (d0.2.2.1), Value.int .i64 (d0.2.2.2.1), Value.slice p0_A4 (d0.2.2.2.2.1.length) (p0_c4), Value.int .i64 (d0.2.2.2.2.2.1), Value.int .i64 (d0.2.2.2.2.2.2.1), Value.slice p0_A7 (d0.2.2.2.2.2.2.2.length) (p0_c7)]) 102 rfl rfl rfl (fun g1 => ?_)
  refine VO.as ?_
  refine VO.k3 0 1 2 ?_
  refine VC.rs ?_
  refine VO.y rfl (.fa rfl tst72 rfl) ?_
  refine VO.y rfl (.ld1 102 rfl tk3 rfl (cellsAt_one rfl rfl)) ?_
  refine VO.callN 103 rfl fnOk124 rfl (fun W hW => lwithin_ok W d0.2.2.2.1 bdk 0 bdk 1048576 bdk) (fun v3 m3 hv3 => ?_)
  subst hv3
  refine VO.as ?_
  refine VO.k4 0 1 2 3 ?_
  refine VC.rs ?_
  refine VO.y rfl (.fa rfl tst72 rfl) ?_
  refine VO.store (k := 1) 102 rfl rfl (.inr ⟨tk3, rfl⟩) rfl rfl rfl rfl rfl ?_
  refine VO.kp [102, 0] [(102, mone g1 (.cells [Value.int .i64 (d0.1), Value.int .i64 (d0.2.1), Value.int .u8 (d0.2.2.1), Value.int .i64 (0), Value.slice p0_A4 (d0.2.2.2.2.1.length) (p0_c4), Value.int .i64 (d0.2.2.2.2.2.1), Value.int .i64 (d0.2.2.2.2.2.2.1), Value.slice p0_A7 (d0.2.2.2.2.2.2.2.length) (p0_c7)].toArray 72 (0, 0))), (0, wm W)] ?_
  refine VO.k4 0 1 2 3 ?_
  refine VC.rs ?_
  refine VO.mv ?_
  refine VO.mv ?_
  refine VO.dec (t := 9) rfl (fun hc4 => ?_) (fun hc4 => ?_)
  · -- T
    refine VO.gy rfl ⟨_, rfl, rfl⟩ (.ldA 102 rfl tk72 rfl (cellsAt_one rfl rfl)) ?_
    refine VO.gcallN 105 rfl ⟨_, rfl, rfl⟩ fnOk147 rfl (fun W hW => bare_ok W (mk_Message (m := wm W) d0.1 d0.2.1 d0.2.2.1 0 d0.2.2.2.2.1 d0.2.2.2.2.2.1 d0.2.2.2.2.2.2.1 d0.2.2.2.2.2.2.2 bdk bdk bdk bdk (Rd.mono p0_4 (hW.at (i := 0) rfl)) bdk bdk (Rd.mono p0_7 (hW.at (i := 0) rfl)))) (fun v5 m5 hv5 => ?_)
    try dsimp only at hv5
    subst hv5
    refine VO.y rfl (.pT rfl rfl) ?_
    refine VO.as ?_
    refine VO.k4 0 1 2 3 ?_
    refine VC.ret ?_
    refine ⟨_, _, res_run (rs := [.tmp 2]) rfl (.tmp rfl .nil), fun W_ hI => out_of (l := []) hI [] rfl rfl (mle_refl _) (fun hS_ => ?_)⟩
    dsimp only [packV]
    all_goals (first | rfl | (first | exact congrArg Value.bool (decide_eq_false (by unfold ackM; omega)).symm | exact congrArg Value.bool (decide_eq_decide.2 (ack_iff (by omega)))))
  · -- F
    refine VO.gN ?_
    refine VO.gN ?_
    refine VO.y rfl (.pF rfl rfl) ?_
    refine VO.as ?_
    refine VO.k4 0 1 2 3 ?_
    refine VC.ret ?_
    refine ⟨_, _, res_run (rs := [.tmp 2]) rfl (.tmp rfl .nil), fun W_ hI => out_of (l := []) hI [] rfl rfl (mle_refl _) (fun hS_ => ?_)⟩
    dsimp only [packV]
    all_goals (first | rfl | (first | exact congrArg Value.bool (decide_eq_false (by unfold ackM; omega)).symm | exact congrArg Value.bool (decide_eq_decide.2 (ack_iff (by omega)))))
theorem fin0_lhello_ok {P : Prop} (h : P := by first | exact congrArg Value.bool (decide_eq_false (by unfold helloM; omega)).symm | exact congrArg Value.bool (decide_eq_false (hello_last ‹_› (by omega) (by omega))).symm | exact congrArg Value.bool (decide_eq_decide.2 (hello_iff ⟨by omega, by omega⟩ (by omega) (lastOk_good ‹_› (by omega) (by omega)))) | exact congrArg Value.bool (decide_eq_decide.2 (hello_iff ⟨by omega, by omega⟩ (by omega) (lastOk_nil (by omega))))) : P := h
theorem lhello_ok (W : World) {v0 : List Value} {d0 : DMessage} (h0 : Rd TMessage (wm W) v0 d0) : CallR Try.prog 125 [.agg v0.toArray] W (mnil) (fun v m' => v = .bool (decide (helloM d0))) := by
  obtain ⟨p0_A4, p0_c4, p0_A7, p0_c7, rfl, p0_0, p0_1, p0_2, p0_3, p0_4, p0_5, p0_6, p0_7⟩ := open_Message (x0 := d0.1) (x1 := d0.2.1) (x2 := d0.2.2.1) (x3 := d0.2.2.2.1) (x4 := d0.2.2.2.2.1) (x5 := d0.2.2.2.2.2.1) (x6 := d0.2.2.2.2.2.2.1) (x7 := d0.2.2.2.2.2.2.2) h0
  simp only [inK] at p0_0
  simp only [inK] at p0_1
  simp only [inK] at p0_2
  simp only [inK] at p0_3
  have p0_r4 := Rd.room p0_4
  simp only [inK] at p0_5
  simp only [inK] at p0_6
  have p0_r7 := Rd.room p0_7
  refine CallR.ofA (n := 38) Try.func125 rfl rfl rfl ?_
  refine VC.rs ?_
  refine VO.box (cs := [Value.int .i64 (d0.1), Value.int .i64 (d0.2.1), Value.int .u8 (d0.2.2.1), Value.int .i64 (d0.2.2.2.1), Value.slice p0_A4 (d0.2.2.2.2.1.length) (p0_c4), Value.int .i64 (d0.2.2.2.2.2.1), Value.int .i64 (d0.2.2.2.2.2.2.1), Value.slice p0_A7 (d0.2.2.2.2.2.2.2.length) (p0_c7)]) 102 rfl rfl rfl (fun g1 => ?_)
  refine VO.as ?_
  refine VO.k3 0 1 2 ?_
  refine VC.seq ?_
  refine VC.rs ?_
  refine VO.y rfl (.fa rfl tst72 rfl) ?_
  refine VO.y rfl (.ld1 102 rfl tk69 rfl (cellsAt_one rfl rfl)) ?_
  refine VO.callN 103 rfl fnOk146 rfl (fun W hW => lrole_ok W d0.2.2.1 bdk) (fun v3 m3 hv3 => ?_)
  subst hv3
  refine VO.y rfl (.notD rfl) ?_
  refine VO.mv ?_
  refine VO.dec (t := 8) rfl (fun hc4 => ?_) (fun hc4 => ?_)
  · -- T
    refine VO.gN ?_
    refine VO.gN ?_
    refine VO.gN ?_
    refine VO.gN ?_
    refine VO.gN ?_
    refine VO.gN ?_
    refine VO.y rfl (.pT rfl rfl) ?_
    refine VO.k4 0 1 2 15 ?_
    refine VC.condT rfl ?_
    refine VC.rs ?_
    refine VO.as ?_
    refine VO.kp [102, 0] [(102, mone g1 (.cells [Value.int .i64 (d0.1), Value.int .i64 (d0.2.1), Value.int .u8 (d0.2.2.1), Value.int .i64 (d0.2.2.2.1), Value.slice p0_A4 (d0.2.2.2.2.1.length) (p0_c4), Value.int .i64 (d0.2.2.2.2.2.1), Value.int .i64 (d0.2.2.2.2.2.2.1), Value.slice p0_A7 (d0.2.2.2.2.2.2.2.length) (p0_c7)].toArray 72 (0, 0))), (0, wm W)] ?_
    refine VO.k4 0 1 2 15 ?_
    refine VC.ret ?_
    refine outR ?_
    refine ⟨_, _, res_run (rs := [.tmp 2]) rfl (.tmp rfl .nil), fun W_ hI => out_of (l := []) hI [] rfl rfl (mle_refl _) (fun hS_ => ?_)⟩
    dsimp only [packV]
    all_goals (first | rfl | (exact fin0_lhello_ok))
  · -- F
    refine VO.gy rfl ⟨_, rfl, rfl⟩ (.fa rfl tst72 rfl) ?_
    refine VO.gy rfl ⟨_, rfl, rfl⟩ (.ld1 102 rfl tk70 rfl (cellsAt_one rfl rfl)) ?_
    refine VO.gy rfl ⟨_, rfl, rfl⟩ (.fa rfl tst72 rfl) ?_
    refine VO.gy rfl ⟨_, rfl, rfl⟩ (.ld1 102 rfl tk3 rfl (cellsAt_one rfl rfl)) ?_
    refine VO.gcallN 105 rfl ⟨_, rfl, rfl⟩ fnOk134 rfl (fun W hW => sCheck_ok W (Rd.mono p0_4 (hW.at (i := 0) rfl)) d0.2.2.2.1 bdk) (fun v5 m5 hv5 => ?_)
    subst hv5
    have hfa6 := sCheck_range d0.2.2.2.2.1 d0.2.2.2.1
    refine VO.gy rfl ⟨_, rfl, rfl⟩ (.neq rfl rfl) ?_
    refine VO.y rfl (.pF rfl rfl) ?_
    refine VO.k4 0 1 2 15 ?_
    refine VC.cond rfl (fun hc7 => ?_) (fun hc7 => ?_)
    · -- FT
      refine VC.rs ?_
      refine VO.as ?_
      refine VO.kp [102, 0] [(102, mone g1 (.cells [Value.int .i64 (d0.1), Value.int .i64 (d0.2.1), Value.int .u8 (d0.2.2.1), Value.int .i64 (d0.2.2.2.1), Value.slice p0_A4 (d0.2.2.2.2.1.length) (p0_c4), Value.int .i64 (d0.2.2.2.2.2.1), Value.int .i64 (d0.2.2.2.2.2.2.1), Value.slice p0_A7 (d0.2.2.2.2.2.2.2.length) (p0_c7)].toArray 72 (0, 0))), (0, wm W)] ?_
      refine VO.k4 0 1 2 15 ?_
      refine VC.ret ?_
      refine outR ?_
      refine ⟨_, _, res_run (rs := [.tmp 2]) rfl (.tmp rfl .nil), fun W_ hI => out_of (l := []) hI [] rfl rfl (mle_refl _) (fun hS_ => ?_)⟩
      dsimp only [packV]
      all_goals (first | rfl | (exact fin0_lhello_ok))
    · -- FF
      refine VC.skip ?_
      refine outN ?_
      refine VC.seq ?_
      refine VC.rs ?_
      refine VO.y rfl (.fa rfl tst72 rfl) ?_
      refine VO.y rfl (.ld1 102 rfl tk70 rfl (cellsAt_one rfl rfl)) ?_
      refine VO.y rfl (.lenS rfl tsl70) ?_
      refine VO.as ?_
      refine VO.kp [102, 0] [(102, mone g1 (.cells [Value.int .i64 (d0.1), Value.int .i64 (d0.2.1), Value.int .u8 (d0.2.2.1), Value.int .i64 (d0.2.2.2.1), Value.slice p0_A4 (d0.2.2.2.2.1.length) (p0_c4), Value.int .i64 (d0.2.2.2.2.2.1), Value.int .i64 (d0.2.2.2.2.2.2.1), Value.slice p0_A7 (d0.2.2.2.2.2.2.2.length) (p0_c7)].toArray 72 (0, 0))), (0, wm W)] ?_
      refine VO.k5 0 1 2 3 15 ?_
      refine VC.seq ?_
      refine VC.regD _ 12 [(0, true), (1, true), (2, true), (3, true), (4, true), (5, true), (6, true), (7, true), (8, true), (9, true), (10, true), (11, true)] follows (by kernel_rfl) (fun _ h => h.sub [102, 0]) ?_
      refine VD.y rfl rfl (.inl rfl) (.mv rfl) ?_
      refine VD.y rfl rfl (.inl rfl) (.gtr rfl rfl) ?_
      refine VD.y rfl rfl (.inl rfl) (.mv rfl) ?_
      refine VD.dec (s := 21) rfl (fun hc8 => ?_) (fun hc8 => ?_)
      · -- FFT
        refine VD.y rfl rfl (.inr ⟨_, _, rfl, _, rfl, rfl⟩) (.fa rfl tst72 rfl) ?_
        refine VD.y rfl rfl (.inr ⟨_, _, rfl, _, rfl, rfl⟩) (.ld1 102 rfl tk70 rfl (cellsAt_one rfl rfl)) ?_
        refine VD.y rfl rfl (.inr ⟨_, _, rfl, _, rfl, rfl⟩) (.mv rfl) ?_
        refine VD.y rfl rfl (.inr ⟨_, _, rfl, _, rfl, rfl⟩) (.sub rfl rfl rfl ⟨bd, bd⟩) ?_
        obtain ⟨x9, hx9⟩ : ∃ z_, (d0.2.2.2.2.1)[(((d0.2.2.2.2.1.length : Nat) : Int) - 1).toNat]? = some z_ := ⟨_, List.getElem?_eq_getElem bd⟩
        obtain ⟨gg9, oo9, ec9, ea9, hce9, hre9⟩ := p0_4.elem hx9
        cases ea9
        obtain ⟨rfl, q9_0, q9_1⟩ := open_Start (x0 := x9.1) (x1 := x9.2) hre9
        simp only [inK] at q9_0
        simp only [inK] at q9_1
        refine VD.y rfl rfl (.inr ⟨_, _, rfl, _, rfl, rfl⟩) (.ixI ((((d0.2.2.2.2.1.length : Nat) : Int) - 1).toNat) rfl rfl tsl70 bd bd) ?_
        refine VD.y rfl rfl (.inr ⟨_, _, rfl, _, rfl, rfl⟩) (.fa rfl tst90 rfl) ?_
        refine VD.y rfl rfl (.inr ⟨_, _, rfl, _, rfl, rfl⟩) (.ld1 0 rfl tk3 rfl (hce9.at1 (j := 0) rfl)) ?_
        refine VD.y rfl rfl (.inr ⟨_, _, rfl, _, rfl, rfl⟩) (.fa rfl tst72 rfl) ?_
        refine VD.y rfl rfl (.inr ⟨_, _, rfl, _, rfl, rfl⟩) (.ld1 102 rfl tk3 rfl (cellsAt_one rfl rfl)) ?_
        refine VD.nil rfl ?_ rfl
        refine VO.gy rfl ⟨_, rfl, rfl⟩ (.gtr rfl rfl) ?_
        refine VO.y rfl (.pT rfl rfl) ?_
        refine VO.k6 0 1 2 3 15 32 ?_
        refine outN ?_
        refine VC.cond rfl (fun hc10 => ?_) (fun hc10 => ?_)
        · -- FFTT
          refine VC.rs ?_
          refine VO.as ?_
          refine VO.k6 0 1 2 3 15 32 ?_
          refine VC.ret ?_
          refine outR ?_
          refine ⟨_, _, res_run (rs := [.tmp 2]) rfl (.tmp rfl .nil), fun W_ hI => out_of (l := []) hI [] rfl rfl (mle_refl _) (fun hS_ => ?_)⟩
          dsimp only [packV]
          all_goals (first | rfl | (exact fin0_lhello_ok))
        · -- FFTF
          refine VC.skip ?_
          refine outN ?_
          refine VC.rs ?_
          refine VO.y rfl (.fa rfl tst72 rfl) ?_
          refine VO.store (k := 1) 102 rfl rfl (.inr ⟨tk69, rfl⟩) rfl rfl rfl rfl rfl ?_
          refine VO.y rfl (.fa rfl tst72 rfl) ?_
          refine VO.store (k := 1) 102 rfl rfl (.inr ⟨tk3, rfl⟩) rfl rfl rfl rfl rfl ?_
          refine VO.y rfl (.fa rfl tst72 rfl) ?_
          refine VO.store (k := 1) 102 rfl rfl (.inr ⟨tk70, rfl⟩) rfl rfl rfl rfl rfl ?_
          refine VO.k6 0 1 2 3 15 32 ?_
          refine VC.rs ?_
          refine VO.y rfl (.ldA 102 rfl tk72 rfl (cellsAt_one rfl rfl)) ?_
          refine VO.callN 111 rfl fnOk147 rfl (fun W hW => bare_ok W (mk_Message (m := wm W) d0.1 d0.2.1 0 0 [] d0.2.2.2.2.2.1 d0.2.2.2.2.2.2.1 d0.2.2.2.2.2.2.2 bdk bdk bdk bdk (Rd.nil _ _ none 0 (Nat.zero_le _)) bdk bdk (Rd.mono p0_7 (hW.at (i := 0) rfl)))) (fun v11 m11 hv11 => ?_)
          try dsimp only at hv11
          subst hv11
          refine VO.as ?_
          refine VO.kp [102, 0] [(102, mone g1 (.cells [Value.int .i64 (d0.1), Value.int .i64 (d0.2.1), Value.int .u8 (0), Value.int .i64 (0), Value.slice none (0) (0), Value.int .i64 (d0.2.2.2.2.2.1), Value.int .i64 (d0.2.2.2.2.2.2.1), Value.slice p0_A7 (d0.2.2.2.2.2.2.2.length) (p0_c7)].toArray 72 (0, 0))), (0, wm W)] ?_
          refine VO.k6 0 1 2 3 15 32 ?_
          refine VC.ret ?_
          refine ⟨_, _, res_run (rs := [.tmp 2]) rfl (.tmp rfl .nil), fun W_ hI => out_of (l := []) hI [] rfl rfl (mle_refl _) (fun hS_ => ?_)⟩
          dsimp only [packV]
          all_goals (first | rfl | (exact fin0_lhello_ok))
      · -- FFF
        refine VD.gn rfl rfl (.inl ⟨_, rfl, rfl⟩) ?_
        refine VD.gn rfl rfl (.inl ⟨_, rfl, rfl⟩) ?_
        refine VD.gn rfl rfl (.inl ⟨_, rfl, rfl⟩) ?_
        refine VD.gn rfl rfl (.inl ⟨_, rfl, rfl⟩) ?_
        refine VD.gn rfl rfl (.inl ⟨_, rfl, rfl⟩) ?_
        refine VD.gn rfl rfl (.inl ⟨_, rfl, rfl⟩) ?_
        refine VD.gn rfl rfl (.inl ⟨_, rfl, rfl⟩) ?_
        refine VD.gn rfl rfl (.inl ⟨_, rfl, rfl⟩) ?_
        refine VD.gn rfl rfl (.inl ⟨_, rfl, rfl⟩) ?_
        refine VD.nil rfl ?_ rfl
        refine VO.gN ?_
        refine VO.y rfl (.pF rfl rfl) ?_
        refine VO.k6 0 1 2 3 15 32 ?_
        refine outN ?_
        refine VC.condF rfl ?_
        refine VC.skip ?_
        refine outN ?_
        refine VC.rs ?_
        refine VO.y rfl (.fa rfl tst72 rfl) ?_
        refine VO.store (k := 1) 102 rfl rfl (.inr ⟨tk69, rfl⟩) rfl rfl rfl rfl rfl ?_
        refine VO.y rfl (.fa rfl tst72 rfl) ?_
        refine VO.store (k := 1) 102 rfl rfl (.inr ⟨tk3, rfl⟩) rfl rfl rfl rfl rfl ?_
        refine VO.y rfl (.fa rfl tst72 rfl) ?_
        refine VO.store (k := 1) 102 rfl rfl (.inr ⟨tk70, rfl⟩) rfl rfl rfl rfl rfl ?_
        refine VO.k6 0 1 2 3 15 32 ?_
        refine VC.rs ?_
        refine VO.y rfl (.ldA 102 rfl tk72 rfl (cellsAt_one rfl rfl)) ?_
        refine VO.callN 112 rfl fnOk147 rfl (fun W hW => bare_ok W (mk_Message (m := wm W) d0.1 d0.2.1 0 0 [] d0.2.2.2.2.2.1 d0.2.2.2.2.2.2.1 d0.2.2.2.2.2.2.2 bdk bdk bdk bdk (Rd.nil _ _ none 0 (Nat.zero_le _)) bdk bdk (Rd.mono p0_7 (hW.at (i := 0) rfl)))) (fun v12 m12 hv12 => ?_)
        try dsimp only at hv12
        subst hv12
        refine VO.as ?_
        refine VO.kp [102, 0] [(102, mone g1 (.cells [Value.int .i64 (d0.1), Value.int .i64 (d0.2.1), Value.int .u8 (0), Value.int .i64 (0), Value.slice none (0) (0), Value.int .i64 (d0.2.2.2.2.2.1), Value.int .i64 (d0.2.2.2.2.2.2.1), Value.slice p0_A7 (d0.2.2.2.2.2.2.2.length) (p0_c7)].toArray 72 (0, 0))), (0, wm W)] ?_
        refine VO.k6 0 1 2 3 15 32 ?_
        refine VC.ret ?_
        refine ⟨_, _, res_run (rs := [.tmp 2]) rfl (.tmp rfl .nil), fun W_ hI => out_of (l := []) hI [] rfl rfl (mle_refl _) (fun hS_ => ?_)⟩
        dsimp only [packV]
        all_goals (first | rfl | (exact fin0_lhello_ok))
theorem fin0_lship_ok {P : Prop} (h : P := by first | exact congrArg Value.bool (decide_eq_false (by unfold shipM; omega)).symm | exact congrArg Value.bool (decide_eq_false (ship_len ‹_›)).symm | exact congrArg Value.bool (decide_eq_false (fun e => by have := e.2.2.2.2.2.1 _ (List.mem_of_getElem? ‹_[k]? = some _›); omega)).symm | exact congrArg Value.bool (decide_eq_decide.2 (by have ha2 := ha; rw [List.take_of_length_le (by omega)] at ha2; exact ship_iff (by omega) (by omega) ‹¬ ¬ decide _ = decide _› (by omega) (by omega) ha2))) : P := h
theorem lship_ok (W : World) {v0 : List Value} {d0 : DMessage} (h0 : Rd TMessage (wm W) v0 d0) : CallR Try.prog 126 [.agg v0.toArray] W (mnil) (fun v m' => v = .bool (decide (shipM d0))) := by
  obtain ⟨p0_A4, p0_c4, p0_A7, p0_c7, rfl, p0_0, p0_1, p0_2, p0_3, p0_4, p0_5, p0_6, p0_7⟩ := open_Message (x0 := d0.1) (x1 := d0.2.1) (x2 := d0.2.2.1) (x3 := d0.2.2.2.1) (x4 := d0.2.2.2.2.1) (x5 := d0.2.2.2.2.2.1) (x6 := d0.2.2.2.2.2.2.1) (x7 := d0.2.2.2.2.2.2.2) h0
  simp only [inK] at p0_0
  simp only [inK] at p0_1
  simp only [inK] at p0_2
  simp only [inK] at p0_3
  have p0_r4 := Rd.room p0_4
  simp only [inK] at p0_5
  simp only [inK] at p0_6
  have p0_r7 := Rd.room p0_7
  refine CallR.ofA (n := 60) Try.func126 rfl rfl rfl ?_
  refine VC.rs ?_
  refine VO.box (cs := [Value.int .i64 (d0.1), Value.int .i64 (d0.2.1), Value.int .u8 (d0.2.2.1), Value.int .i64 (d0.2.2.2.1), Value.slice p0_A4 (d0.2.2.2.2.1.length) (p0_c4), Value.int .i64 (d0.2.2.2.2.2.1), Value.int .i64 (d0.2.2.2.2.2.2.1), Value.slice p0_A7 (d0.2.2.2.2.2.2.2.length) (p0_c7)]) 102 rfl rfl rfl (fun g1 => ?_)
  refine VO.as ?_
  refine VO.k3 0 1 2 ?_
  refine VC.seq ?_
  refine VC.rs ?_
  refine VO.y rfl (.fa rfl tst72 rfl) ?_
  refine VO.y rfl (.ld1 102 rfl tk3 rfl (cellsAt_one rfl rfl)) ?_
  refine VO.callN 103 rfl fnOk124 rfl (fun W hW => lwithin_ok W d0.2.2.2.2.2.1 bdk 1 bdk 1048576 bdk) (fun v3 m3 hv3 => ?_)
  subst hv3
  refine VO.y rfl (.notD rfl) ?_
  refine VO.mv ?_
  refine VO.dec (t := 9) rfl (fun hc4 => ?_) (fun hc4 => ?_)
  · -- T
    refine VO.gN ?_
    refine VO.gN ?_
    refine VO.gN ?_
    refine VO.gN ?_
    refine VO.gN ?_
    refine VO.gN ?_
    refine VO.y rfl (.pT rfl rfl) ?_
    refine VO.mv ?_
    refine VO.gN ?_
    refine VO.gN ?_
    refine VO.gN ?_
    refine VO.gN ?_
    refine VO.gN ?_
    refine VO.gN ?_
    refine VO.gN ?_
    refine VO.y rfl (.pT rfl rfl) ?_
    refine VO.mv ?_
    refine VO.gN ?_
    refine VO.gN ?_
    refine VO.gN ?_
    refine VO.gN ?_
    refine VO.y rfl (.pT rfl rfl) ?_
    refine VO.k4 0 1 2 31 ?_
    refine VC.condT rfl ?_
    refine VC.rs ?_
    refine VO.as ?_
    refine VO.kp [102, 0] [(102, mone g1 (.cells [Value.int .i64 (d0.1), Value.int .i64 (d0.2.1), Value.int .u8 (d0.2.2.1), Value.int .i64 (d0.2.2.2.1), Value.slice p0_A4 (d0.2.2.2.2.1.length) (p0_c4), Value.int .i64 (d0.2.2.2.2.2.1), Value.int .i64 (d0.2.2.2.2.2.2.1), Value.slice p0_A7 (d0.2.2.2.2.2.2.2.length) (p0_c7)].toArray 72 (0, 0))), (0, wm W)] ?_
    refine VO.k4 0 1 2 31 ?_
    refine VC.ret ?_
    refine outR ?_
    refine ⟨_, _, res_run (rs := [.tmp 2]) rfl (.tmp rfl .nil), fun W_ hI => out_of (l := []) hI [] rfl rfl (mle_refl _) (fun hS_ => ?_)⟩
    dsimp only [packV]
    all_goals (first | rfl | (exact fin0_lship_ok))
  · -- F
    refine VO.gy rfl ⟨_, rfl, rfl⟩ (.fa rfl tst72 rfl) ?_
    refine VO.gy rfl ⟨_, rfl, rfl⟩ (.ld1 102 rfl tk3 rfl (cellsAt_one rfl rfl)) ?_
    refine VO.gy rfl ⟨_, rfl, rfl⟩ (.fa rfl tst72 rfl) ?_
    refine VO.gy rfl ⟨_, rfl, rfl⟩ (.ld1 102 rfl tk3 rfl (cellsAt_one rfl rfl)) ?_
    refine VO.gcallN 105 rfl ⟨_, rfl, rfl⟩ fnOk124 rfl (fun W hW => lwithin_ok W d0.2.2.2.2.2.2.1 bdk 0 bdk d0.2.1 bdk) (fun v5 m5 hv5 => ?_)
    subst hv5
    refine VO.gy rfl ⟨_, rfl, rfl⟩ (.notD rfl) ?_
    refine VO.y rfl (.pF rfl rfl) ?_
    refine VO.mv ?_
    refine VO.dec (t := 17) rfl (fun hc6 => ?_) (fun hc6 => ?_)
    · -- FT
      refine VO.gN ?_
      refine VO.gN ?_
      refine VO.gN ?_
      refine VO.gN ?_
      refine VO.gN ?_
      refine VO.gN ?_
      refine VO.gN ?_
      refine VO.y rfl (.pT rfl rfl) ?_
      refine VO.mv ?_
      refine VO.gN ?_
      refine VO.gN ?_
      refine VO.gN ?_
      refine VO.gN ?_
      refine VO.y rfl (.pT rfl rfl) ?_
      refine VO.k4 0 1 2 31 ?_
      refine VC.condT rfl ?_
      refine VC.rs ?_
      refine VO.as ?_
      refine VO.kp [102, 0] [(102, mone g1 (.cells [Value.int .i64 (d0.1), Value.int .i64 (d0.2.1), Value.int .u8 (d0.2.2.1), Value.int .i64 (d0.2.2.2.1), Value.slice p0_A4 (d0.2.2.2.2.1.length) (p0_c4), Value.int .i64 (d0.2.2.2.2.2.1), Value.int .i64 (d0.2.2.2.2.2.2.1), Value.slice p0_A7 (d0.2.2.2.2.2.2.2.length) (p0_c7)].toArray 72 (0, 0))), (0, wm W)] ?_
      refine VO.k4 0 1 2 31 ?_
      refine VC.ret ?_
      refine outR ?_
      refine ⟨_, _, res_run (rs := [.tmp 2]) rfl (.tmp rfl .nil), fun W_ hI => out_of (l := []) hI [] rfl rfl (mle_refl _) (fun hS_ => ?_)⟩
      dsimp only [packV]
      all_goals (first | rfl | (exact fin0_lship_ok))
    · -- FF
      refine VO.gy rfl ⟨_, rfl, rfl⟩ (.fa rfl tst72 rfl) ?_
      refine VO.gy rfl ⟨_, rfl, rfl⟩ (.ld1 102 rfl tk3 rfl (cellsAt_one rfl rfl)) ?_
      refine VO.gy rfl ⟨_, rfl, rfl⟩ (.eql rfl rfl) ?_
      refine VO.gy rfl ⟨_, rfl, rfl⟩ (.fa rfl tst72 rfl) ?_
      refine VO.gy rfl ⟨_, rfl, rfl⟩ (.ld1 102 rfl tk3 rfl (cellsAt_one rfl rfl)) ?_
      refine VO.gy rfl ⟨_, rfl, rfl⟩ (.eql rfl rfl) ?_
      refine VO.gy rfl ⟨_, rfl, rfl⟩ (.bneq rfl rfl Try.underlying4) ?_
      refine VO.y rfl (.pF rfl rfl) ?_
      refine VO.mv ?_
      refine VO.dec (t := 26) rfl (fun hc7 => ?_) (fun hc7 => ?_)
      · -- FFT
        refine VO.gN ?_
        refine VO.gN ?_
        refine VO.gN ?_
        refine VO.gN ?_
        refine VO.y rfl (.pT rfl rfl) ?_
        refine VO.k4 0 1 2 31 ?_
        refine VC.condT rfl ?_
        refine VC.rs ?_
        refine VO.as ?_
        refine VO.kp [102, 0] [(102, mone g1 (.cells [Value.int .i64 (d0.1), Value.int .i64 (d0.2.1), Value.int .u8 (d0.2.2.1), Value.int .i64 (d0.2.2.2.1), Value.slice p0_A4 (d0.2.2.2.2.1.length) (p0_c4), Value.int .i64 (d0.2.2.2.2.2.1), Value.int .i64 (d0.2.2.2.2.2.2.1), Value.slice p0_A7 (d0.2.2.2.2.2.2.2.length) (p0_c7)].toArray 72 (0, 0))), (0, wm W)] ?_
        refine VO.k4 0 1 2 31 ?_
        refine VC.ret ?_
        refine outR ?_
        refine ⟨_, _, res_run (rs := [.tmp 2]) rfl (.tmp rfl .nil), fun W_ hI => out_of (l := []) hI [] rfl rfl (mle_refl _) (fun hS_ => ?_)⟩
        dsimp only [packV]
        all_goals (first | rfl | (exact fin0_lship_ok))
      · -- FFF
        refine VO.gy rfl ⟨_, rfl, rfl⟩ (.fa rfl tst72 rfl) ?_
        refine VO.gy rfl ⟨_, rfl, rfl⟩ (.ld1 102 rfl tk61 rfl (cellsAt_one rfl rfl)) ?_
        refine VO.gy rfl ⟨_, rfl, rfl⟩ (.lenS rfl tsl61) ?_
        refine VO.gy rfl ⟨_, rfl, rfl⟩ (.gtr rfl rfl) ?_
        refine VO.y rfl (.pF rfl rfl) ?_
        refine VO.k4 0 1 2 31 ?_
        refine VC.cond rfl (fun hc8 => ?_) (fun hc8 => ?_)
        · -- FFFT
          refine VC.rs ?_
          refine VO.as ?_
          refine VO.kp [102, 0] [(102, mone g1 (.cells [Value.int .i64 (d0.1), Value.int .i64 (d0.2.1), Value.int .u8 (d0.2.2.1), Value.int .i64 (d0.2.2.2.1), Value.slice p0_A4 (d0.2.2.2.2.1.length) (p0_c4), Value.int .i64 (d0.2.2.2.2.2.1), Value.int .i64 (d0.2.2.2.2.2.2.1), Value.slice p0_A7 (d0.2.2.2.2.2.2.2.length) (p0_c7)].toArray 72 (0, 0))), (0, wm W)] ?_
          refine VO.k4 0 1 2 31 ?_
          refine VC.ret ?_
          refine outR ?_
          refine ⟨_, _, res_run (rs := [.tmp 2]) rfl (.tmp rfl .nil), fun W_ hI => out_of (l := []) hI [] rfl rfl (mle_refl _) (fun hS_ => ?_)⟩
          dsimp only [packV]
          all_goals (first | rfl | (exact fin0_lship_ok))
        · -- FFFF
          refine VC.skip ?_
          refine outN ?_
          refine VC.seq ?_
          refine VC.rs ?_
          refine VO.y rfl (.fa rfl tst72 rfl) ?_
          refine VO.y rfl (.ld1 102 rfl tk3 rfl (cellsAt_one rfl rfl)) ?_
          refine VO.y rfl (.fa rfl tst72 rfl) ?_
          refine VO.y rfl (.ld1 102 rfl tk3 rfl (cellsAt_one rfl rfl)) ?_
          refine VO.y rfl (.sub rfl rfl rfl ⟨bd, bd⟩) ?_
          refine VO.y rfl (.fa rfl tst72 rfl) ?_
          refine VO.y rfl (.ld1 102 rfl tk61 rfl (cellsAt_one rfl rfl)) ?_
          refine VO.callN 109 rfl fnOk52 rfl (fun W hW => follows_ok W d0.2.2.2.2.2.2.1 bdk (d0.2.2.2.2.2.1 - 1) bdk (Rd.mono p0_7 (hW.at (i := 0) rfl))) (fun v9 m9 hv9 => ?_)
          obtain ⟨s9_0, rfl, f9_0⟩ := hv9
          obtain ⟨rfl, q9_0_0, q9_0_1⟩ := open_Fault (x0 := (cFollows d0.2.2.2.2.2.2.1 (d0.2.2.2.2.2.1 - 1) d0.2.2.2.2.2.2.2).1) (x1 := (cFollows d0.2.2.2.2.2.2.1 (d0.2.2.2.2.2.1 - 1) d0.2.2.2.2.2.2.2).2) (f9_0.rd (mle_refl _))
          simp only [inK] at q9_0_0
          simp only [inK] at q9_0_1
          refine VO.y rfl (.fld1 rfl tst57 rfl tfk57_0 rfl) ?_
          refine VO.y rfl (.neq rfl rfl) ?_
          refine VO.kp [102, 0] [(102, mone g1 (.cells [Value.int .i64 (d0.1), Value.int .i64 (d0.2.1), Value.int .u8 (d0.2.2.1), Value.int .i64 (d0.2.2.2.1), Value.slice p0_A4 (d0.2.2.2.2.1.length) (p0_c4), Value.int .i64 (d0.2.2.2.2.2.1), Value.int .i64 (d0.2.2.2.2.2.2.1), Value.slice p0_A7 (d0.2.2.2.2.2.2.2.length) (p0_c7)].toArray 72 (0, 0))), (0, wm W)] ?_
          refine VO.k5 0 1 2 31 41 ?_
          refine VC.cond rfl (fun hc10 => ?_) (fun hc10 => ?_)
          · -- FFFFT
            refine VC.rs ?_
            refine VO.as ?_
            refine VO.k5 0 1 2 31 41 ?_
            refine VC.ret ?_
            refine outR ?_
            refine ⟨_, _, res_run (rs := [.tmp 2]) rfl (.tmp rfl .nil), fun W_ hI => out_of (l := []) hI [] rfl rfl (mle_refl _) (fun hS_ => ?_)⟩
            dsimp only [packV]
            all_goals (first | rfl | (exact fin0_lship_ok))
          · -- FFFFF
            refine VC.skip ?_
            refine outN ?_
            refine VC.seq ?_
            refine VC.rs ?_
            refine VO.y rfl (.fa rfl tst72 rfl) ?_
            refine VO.y rfl (.ld1 102 rfl tk61 rfl (cellsAt_one rfl rfl)) ?_
            refine VO.y rfl (.lenS rfl tsl61) ?_
            refine VO.mv ?_
            refine VO.k8 0 1 2 31 41 43 44 45 ?_
            refine VC.block ?_
            refine VC.loop (G := Nat) (fun k => [(45, Value.int .i64 (((k : Nat) : Int))), (0, Value.agg [Value.int .i64 (d0.1), Value.int .i64 (d0.2.1), Value.int .u8 (d0.2.2.1), Value.int .i64 (d0.2.2.2.1), Value.slice p0_A4 (d0.2.2.2.2.1.length) (p0_c4), Value.int .i64 (d0.2.2.2.2.2.1), Value.int .i64 (d0.2.2.2.2.2.2.1), Value.slice p0_A7 (d0.2.2.2.2.2.2.2.length) (p0_c7)].toArray), (1, Value.pointer (some ⟨g1, 0, none⟩)), (31, Value.bool (decide (4 < ((d0.2.2.2.2.2.2.2.length : Nat) : Int)))), (41, Value.bool (decide (¬ ((cFollows d0.2.2.2.2.2.2.1 (d0.2.2.2.2.2.1 - 1) d0.2.2.2.2.2.2.2).1) = 0))), (43, Value.slice p0_A7 (d0.2.2.2.2.2.2.2.length) (p0_c7)), (44, Value.int .i64 (((d0.2.2.2.2.2.2.2.length : Nat) : Int)))]) (fun k => [(102, mone g1 (.cells [Value.int .i64 (d0.1), Value.int .i64 (d0.2.1), Value.int .u8 (d0.2.2.1), Value.int .i64 (d0.2.2.2.1), Value.slice p0_A4 (d0.2.2.2.2.1.length) (p0_c4), Value.int .i64 (d0.2.2.2.2.2.1), Value.int .i64 (d0.2.2.2.2.2.2.1), Value.slice p0_A7 (d0.2.2.2.2.2.2.2.length) (p0_c7)].toArray 72 (0, 0))), (0, wm W)]) (fun k => (k ≤ d0.2.2.2.2.2.2.2.length) ∧ (∀ c ∈ d0.2.2.2.2.2.2.2.take k, c.1 ≤ d0.2.1)) (fun k => d0.2.2.2.2.2.2.2.length - k) 0 (⟨by omega, by simp⟩) ⟨⟨rfl, rfl, rfl, rfl, rfl, rfl, rfl, trivial⟩, fun _ h => h.sub [102, 0]⟩ ?_
            rintro k ⟨hk, ha⟩
            refine VC.rs ?_
            refine VO.y rfl (.lss rfl rfl) ?_
            refine VO.k8 0 1 31 41 43 44 45 46 ?_
            refine VC.seq ?_
            refine VC.cond rfl (fun hc11 => ?_) (fun hc11 => ?_)
            · -- FFFFFT
              refine VC.skip ?_
              refine outN ?_
              refine VC.seq ?_
              refine VC.block ?_
              refine VC.rs ?_
              obtain ⟨x12, hx12⟩ : ∃ z_, (d0.2.2.2.2.2.2.2)[k]? = some z_ := ⟨_, List.getElem?_eq_getElem bd⟩
              obtain ⟨gg12, oo12, ec12, ea12, hce12, hre12⟩ := p0_7.elem hx12
              cases ea12
              obtain ⟨q12_A2, q12_c2, rfl, q12_0, q12_1, q12_2⟩ := open_Commit (x0 := x12.1) (x1 := x12.2.1) (x2 := x12.2.2) hre12
              simp only [inK] at q12_0
              simp only [inK] at q12_1
              have q12_r2 := Rd.room q12_2
              refine VO.y rfl (.ixI k rfl rfl tsl61 rfl bd) ?_
              refine VO.y rfl (.ldA 0 rfl tk52 rfl hce12) ?_
              refine VO.alloc 114 rfl tz52 (fun g13 => ?_)
              refine VO.store (k := 3) (c' := [Value.int .i64 (x12.1), Value.int .i64 (x12.2.1), Value.slice q12_A2 (x12.2.2.length) (q12_c2)]) 114 rfl rfl (.inl tk52) rfl rfl rfl rfl rfl ?_
              refine VO.kp [114, 102, 0] [(114, mone g13 (.cells [Value.int .i64 (x12.1), Value.int .i64 (x12.2.1), Value.slice q12_A2 (x12.2.2.length) (q12_c2)].toArray 52 (0, 0))), (102, mone g1 (.cells [Value.int .i64 (d0.1), Value.int .i64 (d0.2.1), Value.int .u8 (d0.2.2.1), Value.int .i64 (d0.2.2.2.1), Value.slice p0_A4 (d0.2.2.2.2.1.length) (p0_c4), Value.int .i64 (d0.2.2.2.2.2.1), Value.int .i64 (d0.2.2.2.2.2.2.1), Value.slice (some ⟨gg12, oo12, none⟩) (d0.2.2.2.2.2.2.2.length) (p0_c7)].toArray 72 (0, 0))), (0, wm W)] ?_
              refine VO.k9 0 1 4 31 41 43 44 45 46 ?_
              refine VC.rs ?_
              refine VO.y rfl (.fa rfl tst52 rfl) ?_
              refine VO.y rfl (.ld1 114 rfl tk3 rfl (cellsAt_one rfl rfl)) ?_
              refine VO.y rfl (.fa rfl tst72 rfl) ?_
              refine VO.y rfl (.ld1 102 rfl tk3 rfl (cellsAt_one rfl rfl)) ?_
              refine VO.y rfl (.gtr rfl rfl) ?_
              refine VO.k10 0 1 4 31 41 43 44 45 46 53 ?_
              refine VC.cond rfl (fun hc15 => ?_) (fun hc15 => ?_)
              · -- FFFFFTT
                refine VC.rs ?_
                refine VO.as ?_
                refine VO.k11 0 1 2 4 31 41 43 44 45 46 53 ?_
                refine VC.ret ?_
                refine outBR ?_
                refine outR ?_
                refine outR ?_
                refine outBR ?_
                refine outR ?_
                refine ⟨_, _, res_run (rs := [.tmp 2]) rfl (.tmp rfl .nil), fun W_ hI => out_of (l := []) hI [] rfl rfl (mle_refl _) (fun hS_ => ?_)⟩
                dsimp only [packV]
                all_goals (first | rfl | (exact fin0_lship_ok))
              · -- FFFFFTF
                refine VC.skip ?_
                refine outBN ?_
                refine outN ?_
                refine VC.reg ?_
                refine VO.y rfl (.add (c := ((k + 1 : Nat) : Int)) rfl rfl (by omega) ⟨bd, bd⟩) ?_
                refine VO.mv ?_
                refine VO.k10 0 1 4 31 41 43 44 45 46 53 ?_
                exact outN ⟨k + 1, ⟨by omega, by exact all_next ha ‹_› (by omega)⟩, bd, ⟨⟨rfl, rfl, rfl, rfl, rfl, rfl, rfl, trivial⟩, fun _ h => Inv.sub h [102, 0]⟩⟩
            · -- FFFFFF
              refine VC.exit ?_
              refine outE ?_
              refine outE ?_
              refine outBB ?_
              refine outN ?_
              refine VC.rs ?_
              refine VO.y rfl (.fa rfl tst72 rfl) ?_
              refine VO.store (k := 1) 102 rfl rfl (.inr ⟨tk3, rfl⟩) rfl rfl rfl rfl rfl ?_
              refine VO.y rfl (.fa rfl tst72 rfl) ?_
              refine VO.store (k := 1) 102 rfl rfl (.inr ⟨tk3, rfl⟩) rfl rfl rfl rfl rfl ?_
              refine VO.y rfl (.fa rfl tst72 rfl) ?_
              refine VO.store (k := 1) 102 rfl rfl (.inr ⟨tk61, rfl⟩) rfl rfl rfl rfl rfl ?_
              refine VO.kp [102, 0] [(102, mone g1 (.cells [Value.int .i64 (d0.1), Value.int .i64 (d0.2.1), Value.int .u8 (d0.2.2.1), Value.int .i64 (d0.2.2.2.1), Value.slice p0_A4 (d0.2.2.2.2.1.length) (p0_c4), Value.int .i64 (0), Value.int .i64 (0), Value.slice none (0) (0)].toArray 72 (0, 0))), (0, wm W)] ?_
              refine VO.k8 0 1 31 41 43 44 45 46 ?_
              refine VC.rs ?_
              refine VO.y rfl (.ldA 102 rfl tk72 rfl (cellsAt_one rfl rfl)) ?_
              refine VO.callN 116 rfl fnOk147 rfl (fun W hW => bare_ok W (mk_Message (m := wm W) d0.1 d0.2.1 d0.2.2.1 d0.2.2.2.1 d0.2.2.2.2.1 0 0 [] bdk bdk bdk bdk (Rd.mono p0_4 (hW.at (i := 0) rfl)) bdk bdk (Rd.nil _ _ none 0 (Nat.zero_le _)))) (fun v16 m16 hv16 => ?_)
              try dsimp only at hv16
              subst hv16
              refine VO.as ?_
              refine VO.k9 0 1 2 31 41 43 44 45 46 ?_
              refine VC.ret ?_
              refine ⟨_, _, res_run (rs := [.tmp 2]) rfl (.tmp rfl .nil), fun W_ hI => out_of (l := []) hI [] rfl rfl (mle_refl _) (fun hS_ => ?_)⟩
              dsimp only [packV]
              all_goals (first | rfl | (exact fin0_lship_ok))
theorem fin0_lCheck_ok {P : Prop} (h : P := by congr 1; first | exact (lCheck_good ⟨by omega, .inl ⟨by omega, Decidable.not_not.1 ‹¬ ¬ helloM d0›⟩⟩).symm | exact (lCheck_good ⟨by omega, .inr (.inl ⟨by omega, Decidable.not_not.1 ‹¬ ¬ shipM d0›⟩)⟩).symm | exact (lCheck_good ⟨by omega, .inr (.inr ⟨by omega, Decidable.not_not.1 ‹¬ ¬ ackM d0›⟩)⟩).symm | exact (lCheck_bad (by rintro ⟨e0, e | e | e⟩ <;> first | omega | exact absurd e.2 ‹_›)).symm) : P := h
theorem lCheck_ok (W : World) {v0 : List Value} {d0 : DMessage} (h0 : Rd TMessage (wm W) v0 d0) : CallR Try.prog 87 [.agg v0.toArray] W (mnil) (fun v m' => v = .int .i64 (lCheck d0)) := by
  obtain ⟨p0_A4, p0_c4, p0_A7, p0_c7, rfl, p0_0, p0_1, p0_2, p0_3, p0_4, p0_5, p0_6, p0_7⟩ := open_Message (x0 := d0.1) (x1 := d0.2.1) (x2 := d0.2.2.1) (x3 := d0.2.2.2.1) (x4 := d0.2.2.2.2.1) (x5 := d0.2.2.2.2.2.1) (x6 := d0.2.2.2.2.2.2.1) (x7 := d0.2.2.2.2.2.2.2) h0
  simp only [inK] at p0_0
  simp only [inK] at p0_1
  simp only [inK] at p0_2
  simp only [inK] at p0_3
  have p0_r4 := Rd.room p0_4
  simp only [inK] at p0_5
  simp only [inK] at p0_6
  have p0_r7 := Rd.room p0_7
  refine CallR.ofA (n := 32) Try.func87 rfl rfl rfl ?_
  refine VC.rs ?_
  refine VO.box (cs := [Value.int .i64 (d0.1), Value.int .i64 (d0.2.1), Value.int .u8 (d0.2.2.1), Value.int .i64 (d0.2.2.2.1), Value.slice p0_A4 (d0.2.2.2.2.1.length) (p0_c4), Value.int .i64 (d0.2.2.2.2.2.1), Value.int .i64 (d0.2.2.2.2.2.2.1), Value.slice p0_A7 (d0.2.2.2.2.2.2.2.length) (p0_c7)]) 102 rfl rfl rfl (fun g1 => ?_)
  refine VO.as ?_
  refine VO.k3 0 1 2 ?_
  refine VC.rs ?_
  refine VO.y rfl (.fa rfl tst72 rfl) ?_
  refine VO.y rfl (.ld1 102 rfl tk3 rfl (cellsAt_one rfl rfl)) ?_
  refine VO.callN 103 rfl fnOk124 rfl (fun W hW => lwithin_ok W d0.2.1 bdk 1 bdk 1048576 bdk) (fun v3 m3 hv3 => ?_)
  subst hv3
  refine VO.as ?_
  refine VO.k4 0 1 2 3 ?_
  refine VC.seq ?_
  refine VC.rs ?_
  refine VO.y rfl (.fa rfl tst72 rfl) ?_
  refine VO.y rfl (.ld1 102 rfl tk3 rfl (cellsAt_one rfl rfl)) ?_
  refine VO.kp [102, 0] [(102, mone g1 (.cells [Value.int .i64 (d0.1), Value.int .i64 (d0.2.1), Value.int .u8 (d0.2.2.1), Value.int .i64 (d0.2.2.2.1), Value.slice p0_A4 (d0.2.2.2.2.1.length) (p0_c4), Value.int .i64 (d0.2.2.2.2.2.1), Value.int .i64 (d0.2.2.2.2.2.2.1), Value.slice p0_A7 (d0.2.2.2.2.2.2.2.length) (p0_c7)].toArray 72 (0, 0))), (0, wm W)] ?_
  refine VO.k5 0 1 2 3 8 ?_
  refine VC.block ?_
  refine VC.rs ?_
  refine VO.y rfl (.eql rfl rfl) ?_
  refine VO.as ?_
  refine VO.k6 0 1 2 3 8 9 ?_
  refine VC.cond rfl (fun hc4 => ?_) (fun hc4 => ?_)
  · -- T
    refine VC.reg ?_
    refine VO.mv ?_
    refine VO.mv ?_
    refine VO.dec (t := 12) rfl (fun hc5 => ?_) (fun hc5 => ?_)
    · -- TT
      refine VO.gy rfl ⟨_, rfl, rfl⟩ (.ldA 102 rfl tk72 rfl (cellsAt_one rfl rfl)) ?_
      refine VO.gcallN 106 rfl ⟨_, rfl, rfl⟩ fnOk125 rfl (fun W hW => lhello_ok W (Rd.mono h0 (hW.at (i := 0) rfl))) (fun v6 m6 hv6 => ?_)
      subst hv6
      refine VO.y rfl (.pT rfl rfl) ?_
      refine VO.as ?_
      refine VO.k6 0 1 2 3 8 9 ?_
      refine outBN ?_
      refine outN ?_
      refine VC.seq ?_
      refine VC.rs ?_
      refine VO.mv ?_
      refine VO.y rfl (.notD rfl) ?_
      refine VO.kp [102, 0] [(102, mone g1 (.cells [Value.int .i64 (d0.1), Value.int .i64 (d0.2.1), Value.int .u8 (d0.2.2.1), Value.int .i64 (d0.2.2.2.1), Value.slice p0_A4 (d0.2.2.2.2.1.length) (p0_c4), Value.int .i64 (d0.2.2.2.2.2.1), Value.int .i64 (d0.2.2.2.2.2.2.1), Value.slice p0_A7 (d0.2.2.2.2.2.2.2.length) (p0_c7)].toArray 72 (0, 0))), (0, wm W)] ?_
      refine VO.k7 0 1 2 3 8 9 31 ?_
      refine VC.cond rfl (fun hc7 => ?_) (fun hc7 => ?_)
      · -- TTT
        refine VC.rs ?_
        refine VO.as ?_
        refine VO.k7 0 1 2 3 8 9 31 ?_
        refine VC.ret ?_
        refine outR ?_
        refine ⟨_, _, res_run (rs := [.tmp 2]) rfl (.tmp rfl .nil), fun W_ hI => out_of (l := []) hI [] rfl rfl (mle_refl _) (fun hS_ => ?_)⟩
        dsimp only [packV]
        all_goals (first | rfl | (exact fin0_lCheck_ok))
      · -- TTF
        refine VC.skip ?_
        refine outN ?_
        refine VC.rs ?_
        refine VO.as ?_
        refine VO.k7 0 1 2 3 8 9 31 ?_
        refine VC.ret ?_
        refine ⟨_, _, res_run (rs := [.tmp 2]) rfl (.tmp rfl .nil), fun W_ hI => out_of (l := []) hI [] rfl rfl (mle_refl _) (fun hS_ => ?_)⟩
        dsimp only [packV]
        all_goals (first | rfl | (exact fin0_lCheck_ok))
    · -- TF
      refine VO.gN ?_
      refine VO.gN ?_
      refine VO.y rfl (.pF rfl rfl) ?_
      refine VO.as ?_
      refine VO.k6 0 1 2 3 8 9 ?_
      refine outBN ?_
      refine outN ?_
      refine VC.seq ?_
      refine VC.rs ?_
      refine VO.mv ?_
      refine VO.y rfl (.not rfl) ?_
      refine VO.kp [102, 0] [(102, mone g1 (.cells [Value.int .i64 (d0.1), Value.int .i64 (d0.2.1), Value.int .u8 (d0.2.2.1), Value.int .i64 (d0.2.2.2.1), Value.slice p0_A4 (d0.2.2.2.2.1.length) (p0_c4), Value.int .i64 (d0.2.2.2.2.2.1), Value.int .i64 (d0.2.2.2.2.2.2.1), Value.slice p0_A7 (d0.2.2.2.2.2.2.2.length) (p0_c7)].toArray 72 (0, 0))), (0, wm W)] ?_
      refine VO.k7 0 1 2 3 8 9 31 ?_
      refine VC.condT rfl ?_
      refine VC.rs ?_
      refine VO.as ?_
      refine VO.k7 0 1 2 3 8 9 31 ?_
      refine VC.ret ?_
      refine outR ?_
      refine ⟨_, _, res_run (rs := [.tmp 2]) rfl (.tmp rfl .nil), fun W_ hI => out_of (l := []) hI [] rfl rfl (mle_refl _) (fun hS_ => ?_)⟩
      dsimp only [packV]
      all_goals (first | rfl | (exact fin0_lCheck_ok))
  · -- F
    refine VC.rs ?_
    refine VO.y rfl (.eql rfl rfl) ?_
    refine VO.as ?_
    refine VO.k7 0 1 2 3 8 9 16 ?_
    refine VC.cond rfl (fun hc8 => ?_) (fun hc8 => ?_)
    · -- FT
      refine VC.reg ?_
      refine VO.mv ?_
      refine VO.mv ?_
      refine VO.dec (t := 19) rfl (fun hc9 => ?_) (fun hc9 => ?_)
      · -- FTT
        refine VO.gy rfl ⟨_, rfl, rfl⟩ (.ldA 102 rfl tk72 rfl (cellsAt_one rfl rfl)) ?_
        refine VO.gcallN 110 rfl ⟨_, rfl, rfl⟩ fnOk126 rfl (fun W hW => lship_ok W (Rd.mono h0 (hW.at (i := 0) rfl))) (fun v10 m10 hv10 => ?_)
        subst hv10
        refine VO.y rfl (.pT rfl rfl) ?_
        refine VO.as ?_
        refine VO.kp [102, 0] [(102, mone g1 (.cells [Value.int .i64 (d0.1), Value.int .i64 (d0.2.1), Value.int .u8 (d0.2.2.1), Value.int .i64 (d0.2.2.2.1), Value.slice p0_A4 (d0.2.2.2.2.1.length) (p0_c4), Value.int .i64 (d0.2.2.2.2.2.1), Value.int .i64 (d0.2.2.2.2.2.2.1), Value.slice p0_A7 (d0.2.2.2.2.2.2.2.length) (p0_c7)].toArray 72 (0, 0))), (0, wm W)] ?_
        refine VO.k7 0 1 2 3 8 9 16 ?_
        refine outBN ?_
        refine outN ?_
        refine VC.seq ?_
        refine VC.rs ?_
        refine VO.mv ?_
        refine VO.y rfl (.notD rfl) ?_
        refine VO.k8 0 1 2 3 8 9 16 31 ?_
        refine VC.cond rfl (fun hc11 => ?_) (fun hc11 => ?_)
        · -- FTTT
          refine VC.rs ?_
          refine VO.as ?_
          refine VO.k8 0 1 2 3 8 9 16 31 ?_
          refine VC.ret ?_
          refine outR ?_
          refine ⟨_, _, res_run (rs := [.tmp 2]) rfl (.tmp rfl .nil), fun W_ hI => out_of (l := []) hI [] rfl rfl (mle_refl _) (fun hS_ => ?_)⟩
          dsimp only [packV]
          all_goals (first | rfl | (exact fin0_lCheck_ok))
        · -- FTTF
          refine VC.skip ?_
          refine outN ?_
          refine VC.rs ?_
          refine VO.as ?_
          refine VO.k8 0 1 2 3 8 9 16 31 ?_
          refine VC.ret ?_
          refine ⟨_, _, res_run (rs := [.tmp 2]) rfl (.tmp rfl .nil), fun W_ hI => out_of (l := []) hI [] rfl rfl (mle_refl _) (fun hS_ => ?_)⟩
          dsimp only [packV]
          all_goals (first | rfl | (exact fin0_lCheck_ok))
      · -- FTF
        refine VO.gN ?_
        refine VO.gN ?_
        refine VO.y rfl (.pF rfl rfl) ?_
        refine VO.as ?_
        refine VO.kp [102, 0] [(102, mone g1 (.cells [Value.int .i64 (d0.1), Value.int .i64 (d0.2.1), Value.int .u8 (d0.2.2.1), Value.int .i64 (d0.2.2.2.1), Value.slice p0_A4 (d0.2.2.2.2.1.length) (p0_c4), Value.int .i64 (d0.2.2.2.2.2.1), Value.int .i64 (d0.2.2.2.2.2.2.1), Value.slice p0_A7 (d0.2.2.2.2.2.2.2.length) (p0_c7)].toArray 72 (0, 0))), (0, wm W)] ?_
        refine VO.k7 0 1 2 3 8 9 16 ?_
        refine outBN ?_
        refine outN ?_
        refine VC.seq ?_
        refine VC.rs ?_
        refine VO.mv ?_
        refine VO.y rfl (.not rfl) ?_
        refine VO.k8 0 1 2 3 8 9 16 31 ?_
        refine VC.condT rfl ?_
        refine VC.rs ?_
        refine VO.as ?_
        refine VO.k8 0 1 2 3 8 9 16 31 ?_
        refine VC.ret ?_
        refine outR ?_
        refine ⟨_, _, res_run (rs := [.tmp 2]) rfl (.tmp rfl .nil), fun W_ hI => out_of (l := []) hI [] rfl rfl (mle_refl _) (fun hS_ => ?_)⟩
        dsimp only [packV]
        all_goals (first | rfl | (exact fin0_lCheck_ok))
    · -- FF
      refine VC.rs ?_
      refine VO.y rfl (.eql rfl rfl) ?_
      refine VO.as ?_
      refine VO.kp [102, 0] [(102, mone g1 (.cells [Value.int .i64 (d0.1), Value.int .i64 (d0.2.1), Value.int .u8 (d0.2.2.1), Value.int .i64 (d0.2.2.2.1), Value.slice p0_A4 (d0.2.2.2.2.1.length) (p0_c4), Value.int .i64 (d0.2.2.2.2.2.1), Value.int .i64 (d0.2.2.2.2.2.2.1), Value.slice p0_A7 (d0.2.2.2.2.2.2.2.length) (p0_c7)].toArray 72 (0, 0))), (0, wm W)] ?_
      refine VO.k8 0 1 2 3 8 9 16 23 ?_
      refine VC.cond rfl (fun hc12 => ?_) (fun hc12 => ?_)
      · -- FFT
        refine VC.reg ?_
        refine VO.mv ?_
        refine VO.mv ?_
        refine VO.dec (t := 26) rfl (fun hc13 => ?_) (fun hc13 => ?_)
        · -- FFTT
          refine VO.gy rfl ⟨_, rfl, rfl⟩ (.ldA 102 rfl tk72 rfl (cellsAt_one rfl rfl)) ?_
          refine VO.gcallN 114 rfl ⟨_, rfl, rfl⟩ fnOk127 rfl (fun W hW => lack_ok W (Rd.mono h0 (hW.at (i := 0) rfl))) (fun v14 m14 hv14 => ?_)
          subst hv14
          refine VO.y rfl (.pT rfl rfl) ?_
          refine VO.as ?_
          refine VO.k8 0 1 2 3 8 9 16 23 ?_
          refine outBN ?_
          refine outN ?_
          refine VC.seq ?_
          refine VC.rs ?_
          refine VO.mv ?_
          refine VO.y rfl (.notD rfl) ?_
          refine VO.k9 0 1 2 3 8 9 16 23 31 ?_
          refine VC.cond rfl (fun hc15 => ?_) (fun hc15 => ?_)
          · -- FFTTT
            refine VC.rs ?_
            refine VO.as ?_
            refine VO.kp [102, 0] [(102, mone g1 (.cells [Value.int .i64 (d0.1), Value.int .i64 (d0.2.1), Value.int .u8 (d0.2.2.1), Value.int .i64 (d0.2.2.2.1), Value.slice p0_A4 (d0.2.2.2.2.1.length) (p0_c4), Value.int .i64 (d0.2.2.2.2.2.1), Value.int .i64 (d0.2.2.2.2.2.2.1), Value.slice p0_A7 (d0.2.2.2.2.2.2.2.length) (p0_c7)].toArray 72 (0, 0))), (0, wm W)] ?_
            refine VO.k9 0 1 2 3 8 9 16 23 31 ?_
            refine VC.ret ?_
            refine outR ?_
            refine ⟨_, _, res_run (rs := [.tmp 2]) rfl (.tmp rfl .nil), fun W_ hI => out_of (l := []) hI [] rfl rfl (mle_refl _) (fun hS_ => ?_)⟩
            dsimp only [packV]
            all_goals (first | rfl | (exact fin0_lCheck_ok))
          · -- FFTTF
            refine VC.skip ?_
            refine outN ?_
            refine VC.rs ?_
            refine VO.as ?_
            refine VO.kp [102, 0] [(102, mone g1 (.cells [Value.int .i64 (d0.1), Value.int .i64 (d0.2.1), Value.int .u8 (d0.2.2.1), Value.int .i64 (d0.2.2.2.1), Value.slice p0_A4 (d0.2.2.2.2.1.length) (p0_c4), Value.int .i64 (d0.2.2.2.2.2.1), Value.int .i64 (d0.2.2.2.2.2.2.1), Value.slice p0_A7 (d0.2.2.2.2.2.2.2.length) (p0_c7)].toArray 72 (0, 0))), (0, wm W)] ?_
            refine VO.k9 0 1 2 3 8 9 16 23 31 ?_
            refine VC.ret ?_
            refine ⟨_, _, res_run (rs := [.tmp 2]) rfl (.tmp rfl .nil), fun W_ hI => out_of (l := []) hI [] rfl rfl (mle_refl _) (fun hS_ => ?_)⟩
            dsimp only [packV]
            all_goals (first | rfl | (exact fin0_lCheck_ok))
        · -- FFTF
          refine VO.gN ?_
          refine VO.gN ?_
          refine VO.y rfl (.pF rfl rfl) ?_
          refine VO.as ?_
          refine VO.k8 0 1 2 3 8 9 16 23 ?_
          refine outBN ?_
          refine outN ?_
          refine VC.seq ?_
          refine VC.rs ?_
          refine VO.mv ?_
          refine VO.y rfl (.not rfl) ?_
          refine VO.k9 0 1 2 3 8 9 16 23 31 ?_
          refine VC.condT rfl ?_
          refine VC.rs ?_
          refine VO.as ?_
          refine VO.kp [102, 0] [(102, mone g1 (.cells [Value.int .i64 (d0.1), Value.int .i64 (d0.2.1), Value.int .u8 (d0.2.2.1), Value.int .i64 (d0.2.2.2.1), Value.slice p0_A4 (d0.2.2.2.2.1.length) (p0_c4), Value.int .i64 (d0.2.2.2.2.2.1), Value.int .i64 (d0.2.2.2.2.2.2.1), Value.slice p0_A7 (d0.2.2.2.2.2.2.2.length) (p0_c7)].toArray 72 (0, 0))), (0, wm W)] ?_
          refine VO.k9 0 1 2 3 8 9 16 23 31 ?_
          refine VC.ret ?_
          refine outR ?_
          refine ⟨_, _, res_run (rs := [.tmp 2]) rfl (.tmp rfl .nil), fun W_ hI => out_of (l := []) hI [] rfl rfl (mle_refl _) (fun hS_ => ?_)⟩
          dsimp only [packV]
          all_goals (first | rfl | (exact fin0_lCheck_ok))
      · -- FFF
        refine VC.reg ?_
        refine VO.as ?_
        refine VO.k8 0 1 2 3 8 9 16 23 ?_
        refine outBN ?_
        refine outN ?_
        refine VC.seq ?_
        refine VC.rs ?_
        refine VO.mv ?_
        refine VO.y rfl (.not rfl) ?_
        refine VO.k9 0 1 2 3 8 9 16 23 31 ?_
        refine VC.condT rfl ?_
        refine VC.rs ?_
        refine VO.as ?_
        refine VO.kp [102, 0] [(102, mone g1 (.cells [Value.int .i64 (d0.1), Value.int .i64 (d0.2.1), Value.int .u8 (d0.2.2.1), Value.int .i64 (d0.2.2.2.1), Value.slice p0_A4 (d0.2.2.2.2.1.length) (p0_c4), Value.int .i64 (d0.2.2.2.2.2.1), Value.int .i64 (d0.2.2.2.2.2.2.1), Value.slice p0_A7 (d0.2.2.2.2.2.2.2.length) (p0_c7)].toArray 72 (0, 0))), (0, wm W)] ?_
        refine VO.k9 0 1 2 3 8 9 16 23 31 ?_
        refine VC.ret ?_
        refine outR ?_
        refine ⟨_, _, res_run (rs := [.tmp 2]) rfl (.tmp rfl .nil), fun W_ hI => out_of (l := []) hI [] rfl rfl (mle_refl _) (fun hS_ => ?_)⟩
        dsimp only [packV]
        all_goals (first | rfl | (exact fin0_lCheck_ok))
end
section
set_option linter.unusedVariables false
set_option linter.unusedSimpArgs false
set_option maxRecDepth 4000
theorem fnOk60 : fnOk Try.prog 60 = true := by kernel_rfl
end
section
set_option linter.unusedVariables false
def logC : Int → List Int → List DCommit
  | _, [] => []
  | n, e :: r => (e, n, [(false, [107], [])]) :: logC (n + 1) r
theorem logC_next {n : Int} {l : List Int} {k : Nat} {x : Int} {out : List DCommit} (h : out ++ logC (n + k) (l.drop k) = logC n l) (hx : l[k]? = some x) : (out ++ [(x, n + k, [(false, [107], [])])]) ++ logC (n + (k + 1 : Nat)) (l.drop (k + 1)) = logC n l := by
  rw [← h, drop_next hx]
  simp [logC]
  congr 1
  omega
theorem logC_len : ∀ (n : Int) (l : List Int), (logC n l).length = l.length
  | _, [] => rfl
  | n, _ :: r => by simp [logC, logC_len (n + 1) r]
def epochAt (l : List DCommit) (n : Int) : Int := match l[n.toNat]? with
  | some c => c.1
  | none => 0
theorem epochAt_of {l : List DCommit} {n : Int} {x : DCommit} (h : l[n.toNat]? = some x) : epochAt l n = x.1 := by unfold epochAt; rw [h]
def fitsM (l : List DCommit) (m : DMessage) : Prop := (1 < m.2.2.2.2.2.1 → epochAt l (m.2.2.2.2.2.1 - 2) = m.2.2.2.2.2.2.1) ∧ ∀ c ∈ m.2.2.2.2.2.2.2, c.2.1 ≤ l.length → epochAt l (c.2.1 - 1) = c.1
instance (l : List DCommit) (m : DMessage) : Decidable (fitsM l m) := by unfold fitsM; infer_instance
def takeOf (e : Int) (l : List DCommit) (m : DMessage) : List DCommit × Int := if (cFollows 0 0 l).1 ≠ 0 then ([], (cFollows 0 0 l).1) else if lCheck m ≠ 0 ∨ m.1 ≠ 2 then ([], 2) else if m.2.1 < e then ([], 12) else if e < m.2.1 then ([], 2) else
  if (l.length : Int) < m.2.2.2.2.2.1 - 1 then ([], 13) else if ¬ fitsM l m then ([], 14) else (m.2.2.2.2.2.2.2.filter (fun c => decide ((l.length : Int) < c.2.1)), 0)
section
variable {e : Int} {l : List DCommit} {m : DMessage}
theorem take_follows (h : ¬ (cFollows 0 0 l).1 = 0) : takeOf e l m = ([], (cFollows 0 0 l).1) := if_pos h
theorem take_check (h : ¬ ¬ (cFollows 0 0 l).1 = 0) (h1 : ¬ lCheck m = 0 ∨ ¬ m.1 = 2) : takeOf e l m = ([], 2) := by unfold takeOf; rw [if_neg h, if_pos h1]
theorem take_stale (h : ¬ ¬ (cFollows 0 0 l).1 = 0) (h1 : lCheck m = 0) (h2 : m.1 = 2) (h3 : m.2.1 < e) : takeOf e l m = ([], 12) := by unfold takeOf; rw [if_neg h, if_neg (by omega), if_pos h3]
theorem take_later (h : ¬ ¬ (cFollows 0 0 l).1 = 0) (h1 : lCheck m = 0) (h2 : m.1 = 2) (h3 : ¬ m.2.1 < e) (h4 : e < m.2.1) : takeOf e l m = ([], 2) := by unfold takeOf; rw [if_neg h, if_neg (by omega), if_neg h3, if_pos h4]
theorem take_gap (h : ¬ ¬ (cFollows 0 0 l).1 = 0) (h1 : lCheck m = 0) (h2 : m.1 = 2) (h3 : ¬ m.2.1 < e) (h4 : ¬ e < m.2.1) (h5 : (l.length : Int) < m.2.2.2.2.2.1 - 1) : takeOf e l m = ([], 13) := by unfold takeOf; rw [if_neg h, if_neg (by omega), if_neg h3, if_neg h4, if_pos h5]
theorem take_fork (h : ¬ ¬ (cFollows 0 0 l).1 = 0) (h1 : lCheck m = 0) (h2 : m.1 = 2) (h3 : ¬ m.2.1 < e) (h4 : ¬ e < m.2.1) (h5 : ¬ (l.length : Int) < m.2.2.2.2.2.1 - 1) (h6 : ¬ fitsM l m) : takeOf e l m = ([], 14) := by unfold takeOf; rw [if_neg h, if_neg (by omega), if_neg h3, if_neg h4, if_neg h5, if_pos h6]
theorem take_good (h : ¬ ¬ (cFollows 0 0 l).1 = 0) (h1 : lCheck m = 0) (h2 : m.1 = 2) (h3 : ¬ m.2.1 < e) (h4 : ¬ e < m.2.1) (h5 : ¬ (l.length : Int) < m.2.2.2.2.2.1 - 1) (h6 : fitsM l m) : takeOf e l m = (m.2.2.2.2.2.2.2.filter (fun c => decide ((l.length : Int) < c.2.1)), 0) := by unfold takeOf; rw [if_neg h, if_neg (by omega), if_neg h3, if_neg h4, if_neg h5, if_neg (by simpa using h6)]
theorem lCheck_ship (h : lCheck m = 0) (h2 : m.1 = 2) : shipM m := by
  unfold lCheck at h
  split at h
  · rename_i h3
    rcases h3.2 with h4 | h4 | h4
    · omega
    · exact h4.2
    · omega
  · cases h
theorem ship_commit (h : lCheck m = 0) (h2 : m.1 = 2) {c : DCommit} (hc : c ∈ m.2.2.2.2.2.2.2) : cCheck c = 0 := cFollowsAt_ok (lCheck_ship h h2).2.2.2.2.1 c hc
theorem ship_room (h : lCheck m = 0) (h2 : m.1 = 2) {k : Nat} {c : DCommit} (hc : m.2.2.2.2.2.2.2[k]? = some c) : c.2.2.length ≤ 3518437208800 := by
  have := batchCheck_ok (cCheck_ok (ship_commit h h2 (List.mem_of_getElem? hc))).2.2.2.2
  omega
theorem ship_pos (h : lCheck m = 0) (h2 : m.1 = 2) : ∀ c ∈ m.2.2.2.2.2.2.2, 1 ≤ c.2.1 := fun c hc => (cCheck_ok (ship_commit h h2 hc)).2.2.1
end
theorem filter_yes {α : Type} {p : α → Bool} {l : List α} {k : Nat} {x : α} (hx : l[k]? = some x) (h : p x = true) : (l.take (k + 1)).filter p = (l.take k).filter p ++ [x] := by
  rw [take_one hx, List.filter_append]; simp [h]
theorem filter_no {α : Type} {p : α → Bool} {l : List α} {k : Nat} {x : α} (hx : l[k]? = some x) (h : p x = false) : (l.take (k + 1)).filter p = (l.take k).filter p := by
  rw [take_one hx, List.filter_append]; simp [h]
def knownOf (e k : Int) (m : DMessage) : Int × Bool × Int := if lCheck m ≠ 0 then (0, false, 2) else if m.2.1 < e then (0, false, 12) else if e < m.2.1 then (0, false, 2) else
  if m.1 = 3 ∨ (m.1 = 1 ∧ m.2.2.1 = 2) then (Max.max (Max.max k 0) m.2.2.2.1, true, 0) else (Max.max k 0, false, 0)
section
variable {e k : Int} {m : DMessage}
theorem known_check (h : ¬ lCheck m = 0) : knownOf e k m = (0, false, 2) := if_pos h
theorem known_stale (h : ¬ ¬ lCheck m = 0) (h1 : m.2.1 < e) : knownOf e k m = (0, false, 12) := by unfold knownOf; rw [if_neg h, if_pos h1]
theorem known_later (h : ¬ ¬ lCheck m = 0) (h1 : ¬ m.2.1 < e) (h2 : e < m.2.1) : knownOf e k m = (0, false, 2) := by unfold knownOf; rw [if_neg h, if_neg h1, if_pos h2]
theorem known_yes (h : ¬ ¬ lCheck m = 0) (h1 : ¬ m.2.1 < e) (h2 : ¬ e < m.2.1) (h3 : m.1 = 3 ∨ (m.1 = 1 ∧ m.2.2.1 = 2)) : knownOf e k m = (Max.max (Max.max k 0) m.2.2.2.1, true, 0) := by unfold knownOf; rw [if_neg h, if_neg h1, if_neg h2, if_pos h3]
theorem known_no (h : ¬ ¬ lCheck m = 0) (h1 : ¬ m.2.1 < e) (h2 : ¬ e < m.2.1) (h3 : ¬ (m.1 = 3 ∨ (m.1 = 1 ∧ m.2.2.1 = 2))) : knownOf e k m = (Max.max k 0, false, 0) := by unfold knownOf; rw [if_neg h, if_neg h1, if_neg h2, if_neg h3]
end
end
end Go.Proofs.Ytfaknkkaegjdaaa
