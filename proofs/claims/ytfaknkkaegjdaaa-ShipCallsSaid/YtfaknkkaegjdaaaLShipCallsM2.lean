/- Part 2 of the proof of LShipCalls: what it needs of the library, the walks and the plain laws. Conditions: those named in each theorem. -/
import Derived.Test.YtfaknkkaegjdaaaLShipCallsM1
namespace Go.Proofs.Ytfaknkkaegjdaaa
section
set_option linter.unusedVariables false
set_option linter.unusedSimpArgs false
set_option maxRecDepth 4000
theorem fnOk29 : fnOk Try.prog 29 = true := by kernel_rfl
theorem fnOk38 : fnOk Try.prog 38 = true := by kernel_rfl
theorem fnOk96 : fnOk Try.prog 96 = true := by kernel_rfl
theorem teq49 (a0 : Bool) (a1 : List UInt8) (a2 : List UInt8) : plainS Try.prog 49 [.bool a0, str a1, str a2] = true := by kernel_rfl
theorem tk4 : tk Try.prog 4 = some none := by kernel_rfl
theorem tk49 : tk Try.prog 49 = some (some 3) := by kernel_rfl
theorem tk9 : tk Try.prog 9 = some none := by kernel_rfl
theorem tsl22 : tsl Try.prog 22 = some (49, 3, 40) := by kernel_rfl
theorem tst49 : tst Try.prog 49 = some [(0, 1), (1, 1), (2, 1)] := by kernel_rfl
theorem tz49 : tz Try.prog 49 = some [.bool false, .string ⟨#[]⟩, .string ⟨#[]⟩] := by kernel_rfl
theorem follows : Try.prog.follows .mixedOrders = true := by kernel_rfl
theorem SameOps_ok (W : World) {v0 : Value} {d0 : List DOp} (h0 : Rd (.sl TOp) (wm W) [v0] d0) {v1 : Value} {d1 : List DOp} (h1 : Rd (.sl TOp) (wm W) [v1] d1) : CallR Try.prog 38 [v0, v1] W (mnil) (fun v m' => v = .bool (decide (d0 = d1))) := by
  obtain ⟨A0, c0, rfl, l0, k0⟩ := h0.slice
  simp only [maxLen] at k0
  obtain ⟨A1, c1, rfl, l1, k1⟩ := h1.slice
  simp only [maxLen] at k1
  refine CallR.ofA (n := 26) Try.func38 rfl rfl rfl ?_
  refine VC.rs ?_
  refine VO.as ?_
  refine VO.k3 0 1 4 ?_
  refine VC.seq ?_
  refine VC.rs ?_
  refine VO.mv ?_
  refine VO.y rfl (.lenS rfl tsl22) ?_
  refine VO.mv ?_
  refine VO.y rfl (.lenS rfl tsl22) ?_
  refine VO.y rfl (.neq rfl rfl) ?_
  refine VO.k4 0 1 4 10 ?_
  refine VC.cond rfl (fun hc1 => ?_) (fun hc1 => ?_)
  · -- T
    refine VC.rs ?_
    refine VO.as ?_
    refine VO.keep [0] [(0, wm W)] (by kernel_rfl) ?_
    refine VO.k4 0 1 4 10 ?_
    refine VC.ret ?_
    refine outR ?_
    refine ⟨_, _, res_run (rs := [.tmp 4]) rfl (.tmp rfl .nil), fun W_ hI => out_of (l := []) hI [] rfl rfl (mle_refl _) (fun hS_ => ?_)⟩
    dsimp only [packV]
    all_goals (first | rfl | (simp [len_ne hc1]))
  · -- F
    refine VC.skip ?_
    refine outN ?_
    refine VC.seq ?_
    refine VC.rs ?_
    refine VO.as ?_
    refine VO.keep [0] [(0, wm W)] (by kernel_rfl) ?_
    refine VO.k5 0 1 4 5 10 ?_
    refine VC.block ?_
    refine VC.loop (G := Nat) (fun k => [(5, Value.int .i64 (((k : Nat) : Int))), (0, Value.slice A0 (d0.length) (c0)), (1, Value.slice A1 (d1.length) (c1)), (10, Value.bool (decide (¬ ((d0.length : Nat) : Int) = ((d1.length : Nat) : Int))))]) (fun k => [(0, wm W)]) (fun k => (k ≤ d0.length) ∧ (d0.take k = d1.take k)) (fun k => d0.length - k) 0 (⟨by omega, by rfl⟩) ⟨⟨rfl, rfl, rfl, rfl, trivial⟩, fun _ h => h.sub [0]⟩ ?_
    rintro k ⟨hk, ht⟩
    refine VC.seq ?_
    refine VC.rs ?_
    refine VO.mv ?_
    refine VO.mv ?_
    refine VO.y rfl (.lenS rfl tsl22) ?_
    refine VO.y rfl (.lss rfl rfl) ?_
    refine VO.k5 0 1 5 10 14 ?_
    refine VC.cond rfl (fun hc2 => ?_) (fun hc2 => ?_)
    · -- FT
      refine VC.skip ?_
      refine outN ?_
      refine VC.seq ?_
      refine VC.block ?_
      refine VC.seq ?_
      refine VC.regD _ 8 [(0, true), (1, true), (2, true), (3, true), (4, true), (5, true), (6, true), (7, true)] follows (by kernel_rfl) (fun _ h => h.sub [0]) ?_
      refine VD.y rfl rfl (.inl rfl) (.mv rfl) ?_
      refine VD.y rfl rfl (.inl rfl) (.mv rfl) ?_
      obtain ⟨x3, hx3⟩ : ∃ z_, (d0)[k]? = some z_ := ⟨_, List.getElem?_eq_getElem bd⟩
      obtain ⟨gg3, oo3, ec3, ea3, hce3, hre3⟩ := h0.elem hx3
      cases ea3
      obtain ⟨rfl, q3_1, q3_2⟩ := open_Op (x0 := x3.1) (x1 := x3.2.1) (x2 := x3.2.2) hre3
      simp only [maxLen] at q3_1
      simp only [maxLen] at q3_2
      refine VD.y rfl rfl (.inl rfl) (.ixI k rfl rfl tsl22 rfl bd) ?_
      refine VD.y rfl rfl (.inl rfl) (.ldA 0 rfl tk49 rfl hce3) ?_
      refine VD.y rfl rfl (.inl rfl) (.mv rfl) ?_
      refine VD.y rfl rfl (.inl rfl) (.mv rfl) ?_
      obtain ⟨x4, hx4⟩ : ∃ z_, (d1)[k]? = some z_ := ⟨_, List.getElem?_eq_getElem bd⟩
      obtain ⟨gg4, oo4, ec4, ea4, hce4, hre4⟩ := h1.elem hx4
      cases ea4
      obtain ⟨rfl, q4_1, q4_2⟩ := open_Op (x0 := x4.1) (x1 := x4.2.1) (x2 := x4.2.2) hre4
      simp only [maxLen] at q4_1
      simp only [maxLen] at q4_2
      refine VD.y rfl rfl (.inl rfl) (.ixI k rfl rfl tsl22 rfl bd) ?_
      refine VD.y rfl rfl (.inl rfl) (.ldA 0 rfl tk49 rfl hce4) ?_
      refine VD.nil rfl ?_ rfl
      refine VO.y rfl (.stneq (p := x3.1 = x4.1 ∧ x3.2.1 = x4.2.1 ∧ x3.2.2 = x4.2.2) rfl rfl (teq49 x3.1 x3.2.1 x3.2.2) (teq49 x4.1 x4.2.1 x4.2.2) (by simp [ceq, ba_toList])) ?_
      refine VO.k6 0 1 5 10 14 25 ?_
      refine outN ?_
      refine VC.cond rfl (fun hc5 => ?_) (fun hc5 => ?_)
      · -- FTT
        refine VC.rs ?_
        refine VO.as ?_
        refine VO.keep [0] [(0, wm W)] (by kernel_rfl) ?_
        refine VO.k7 0 1 4 5 10 14 25 ?_
        refine VC.ret ?_
        refine outBR ?_
        refine outR ?_
        refine outR ?_
        refine outBR ?_
        refine outR ?_
        refine ⟨_, _, res_run (rs := [.tmp 4]) rfl (.tmp rfl .nil), fun W_ hI => out_of (l := []) hI [] rfl rfl (mle_refl _) (fun hS_ => ?_)⟩
        dsimp only [packV]
        all_goals (first | rfl | (simp [get_ne ‹d0[k]? = some _› ‹d1[k]? = some _› (op_ne ‹_›)]))
      · -- FTF
        refine VC.skip ?_
        refine outBN ?_
        refine outN ?_
        refine VC.reg ?_
        refine VO.mv ?_
        refine VO.y rfl (.add (c := ((k + 1 : Nat) : Int)) rfl rfl (by omega) ⟨bd, bd⟩) ?_
        refine VO.as ?_
        refine VO.keep [0] [(0, wm W)] (by kernel_rfl) ?_
        refine VO.k6 0 1 5 10 14 25 ?_
        exact outN ⟨k + 1, ⟨by omega, by exact take_next ht ‹d0[k]? = some _› ‹d1[k]? = some _› (op_eq (by simpa using ‹¬ ¬ _›))⟩, bd, ⟨⟨rfl, rfl, rfl, rfl, trivial⟩, fun _ h => Inv.sub h [0]⟩⟩
    · -- FF
      refine VC.exit ?_
      refine outE ?_
      refine outE ?_
      refine outBB ?_
      refine outN ?_
      refine VC.rs ?_
      refine VO.as ?_
      refine VO.k6 0 1 4 5 10 14 ?_
      refine VC.ret ?_
      refine ⟨_, _, res_run (rs := [.tmp 4]) rfl (.tmp rfl .nil), fun W_ hI => out_of (l := []) hI [] rfl rfl (mle_refl _) (fun hS_ => ?_)⟩
      dsimp only [packV]
      all_goals (first | rfl | (simp [take_all ht (by omega) (by omega)]))
theorem CopyOps_ok (W : World) {v0 : Value} {d0 : List DOp} (h0 : Rd (.sl TOp) (wm W) [v0] d0) (e0 : d0.length ≤ 3518437208800) : CallR Try.prog 96 [v0] W (mnil) (fun v m' => ∃ (s0 : Value), v = s0 ∧ Ow (.sl TOp) m' [s0] (d0)) := by
  obtain ⟨A0, c0, rfl, l0, k0⟩ := h0.slice
  simp only [maxLen] at k0
  refine CallR.ofA (n := 6) Try.func96 rfl rfl rfl ?_
  refine VC.rs ?_
  refine VO.as ?_
  refine VO.k2 0 2 ?_
  refine VC.rs ?_
  refine VO.bsl (cs := []) 102 rfl rfl tsl22 tz49 rfl rfl (fun g1 => ?_)
  refine VO.mv ?_
  have ho4 : OwnL TOp (mone g1 (.cells [].toArray 49 (0, 0))) mnil (Value.slice (some ⟨g1, 0, none⟩) (0) (0)) [] := OwnL.lit 0 All2c.nil rfl rfl
  obtain ⟨mo3, cs3, hM3, hA3, hC3⟩ := ho4
  obtain ⟨all3, hS3, hR3⟩ := Rd.srcI (P := Try.prog) (h0) Try.underlying22
  refine VO.app 102 rfl rfl rfl tsl22 tz49 rfl rfl hM3 hA3 (hS3 _ 0 rfl) hR3.nice bdm bd (by decide) (fun v3 m3 hN3 => ?_)
  have ho3 : OwnL TOp m3 mnil v3 (d0) := OwnL.more hC3 hN3 (All2c.mono hR3 fun _ _ h => Rd.flat rfl h _)
  obtain ⟨A3, c3, rfl, l3, k3⟩ := ho3.slice
  simp only [maxLen] at k3
  refine VO.as ?_
  refine VO.k2 0 2 ?_
  refine VC.ret ?_
  refine ⟨_, _, res_run (rs := [.tmp 2]) rfl (.tmp rfl .nil), fun W_ hI => out_of (l := [m3]) hI [102] rfl rfl (mle_refl _) (fun hS_ => ?_)⟩
  dsimp only [packV]
  have he0 : (d0 : Ty.Den (.sl TOp)) = d0 := by first | rfl | (simp [*]; done)
  refine ⟨Value.slice A3 ((d0).length) (c3), ?_, ?_⟩
  rotate_left
  · rw [he0]; exact (Ow.up (OwnL.ow ho3 rfl) (hS_.1 _ (.head _)))
  all_goals (first | rfl | (simp [*]; done))
theorem LentOps_ok (W : World) {v0 : Value} {d0 : List DOp} (h0 : Rd (.sl TOp) (wm W) [v0] d0) (e0 : d0.length ≤ 3518437208800) : CallR Try.prog 29 [v0] W (mnil) (fun v m' => ∃ (s0 : Value), v = s0 ∧ Ow (.sl TOp) m' [s0] (d0 ++ spareO)) := by
  obtain ⟨A0, c0, rfl, l0, k0⟩ := h0.slice
  simp only [maxLen] at k0
  refine CallR.ofA (n := 16) Try.func29 rfl rfl rfl ?_
  refine VC.rs ?_
  refine VO.as ?_
  refine VO.k2 0 2 ?_
  refine VC.rs ?_
  refine VO.mv ?_
  refine VO.callN 101 rfl fnOk96 rfl (fun W hW => CopyOps_ok W (Rd.mono h0 (hW.at (i := 0) rfl)) bd) (fun v1 m1 hv1 => ?_)
  obtain ⟨s1_0, rfl, f1_0⟩ := hv1
  obtain ⟨A1_0, c1_0, eq1_0, l1_0, k1_0⟩ := f1_0.slice
  subst eq1_0
  simp only [maxLen] at k1_0
  refine VO.as ?_
  refine VO.k3 0 2 3 ?_
  refine VC.seq ?_
  refine VC.rs ?_
  refine VO.as ?_
  refine VO.keep [101, 0] [(101, m1), (0, wm W)] (by kernel_rfl) ?_
  refine VO.k4 0 2 3 4 ?_
  refine VC.block ?_
  refine VC.loop (G := Nat × (List DOp) × (Option Addr) × Nat × Mem) (fun g => [(3, Value.slice (g.2.2.1) ((g.2.1).length) ((g.2.2.2.1))), (4, Value.int .i64 ((((g.1) : Nat) : Int))), (0, Value.slice A0 (d0.length) (c0)), (2, Value.slice none (0) (0))]) (fun g => [(101, (g.2.2.2.2)), (0, wm W)]) (fun g => ((g.1) ≤ 3) ∧ ((g.2.1) = d0 ++ spareO.take (g.1)) ∧ (OwnL TOp (g.2.2.2.2) mnil (.slice (g.2.2.1) (g.2.1).length (g.2.2.2.1)) (g.2.1))) (fun g => 3 - (g.1)) (0, d0, A1_0, c1_0, m1) (⟨by omega, by simp, (Ow.ownl f1_0 rfl mnil)⟩) ⟨⟨rfl, rfl, rfl, rfl, trivial⟩, fun _ h => h.sub [101, 0]⟩ ?_
  rintro ⟨k, out, out_A, out_c, out_m⟩ ⟨hk, ho, h_out⟩
  replace hk : k ≤ 3 := hk
  replace ho : out = d0 ++ spareO.take k := ho
  replace h_out : OwnL TOp out_m mnil (.slice out_A out.length out_c) out := h_out
  show VC _ _ _ _ _ [(3, Value.slice out_A (out.length) (out_c)), (4, Value.int .i64 (((k : Nat) : Int))), (0, Value.slice A0 (d0.length) (c0)), (2, Value.slice none (0) (0))] [(101, out_m), (0, wm W)]
  have l_out : out.length ≤ out_c := by obtain ⟨_, _, he, hl, _⟩ := h_out.slice; simp only [Value.slice.injEq] at he; omega
  have k_out : out_c ≤ 9223372036854775807 := by obtain ⟨_, _, he, _, hl⟩ := h_out.slice; simp only [Value.slice.injEq, maxLen] at he hl; omega
  have hlo : out.length ≤ d0.length + 3 := by rw [ho]; simp [spareO]; omega
  refine VC.seq ?_
  refine VC.rs ?_
  refine VO.mv ?_
  refine VO.y rfl (.lss rfl rfl) ?_
  refine VO.k5 0 2 3 4 8 ?_
  refine VC.cond rfl (fun hc2 => ?_) (fun hc2 => ?_)
  · -- T
    refine VC.skip ?_
    refine outN ?_
    refine VC.seq ?_
    refine VC.block ?_
    refine VC.reg ?_
    refine VO.mv ?_
    refine VO.y rfl (.bst (cs := [Value.bool true, str ([98, 101, 104, 105, 110, 100]), str ([])]) rfl tst49 tz49 rfl) ?_
    refine VO.bsl (cs := [Value.bool true, str ([98, 101, 104, 105, 110, 100]), str ([])]) 104 rfl rfl tsl22 tz49 rfl rfl (fun g3 => ?_)
    obtain ⟨mo5, cs5, hM5, hA5, hC5⟩ := h_out
    refine VO.app 101 rfl rfl rfl tsl22 tz49 rfl rfl hM5 hA5 (.row 104 _ _ _ 1 1 _ _ Try.underlying22 rfl (cellsAt_one rfl rfl)) (by simp [Value.oneCell']) bdm bd (by decide) (fun v5 m5 hN5 => ?_)
    have ho5 : OwnL TOp m5 mnil v5 (out ++ [(true, [98, 101, 104, 105, 110, 100], [])]) := OwnL.one hC5 hN5 (mk_Op (m := _) true ([98, 101, 104, 105, 110, 100]) [] bdm bdm)
    obtain ⟨A5, c5, rfl, l5, k5⟩ := ho5.slice
    simp only [maxLen] at k5
    refine VO.as ?_
    refine VO.k5 0 2 3 4 8 ?_
    refine outBN ?_
    refine outN ?_
    refine VC.reg ?_
    refine VO.mv ?_
    refine VO.y rfl (.add (c := ((k + 1 : Nat) : Int)) rfl rfl (by omega) ⟨bd, bd⟩) ?_
    refine VO.as ?_
    refine VO.keep [101, 0] [(101, m5), (0, wm W)] (by kernel_rfl) ?_
    refine VO.k5 0 2 3 4 8 ?_
    exact outN ⟨⟨k + 1, out ++ [(true, [98, 101, 104, 105, 110, 100], [])], A5, c5, m5⟩, ⟨by omega, by exact spareO_next ho (by omega), ho5⟩, bd, ⟨⟨rfl, rfl, rfl, rfl, trivial⟩, fun _ h => Inv.sub h [101, 0]⟩⟩
  · -- F
    refine VC.exit ?_
    refine outE ?_
    refine outE ?_
    refine outBB ?_
    refine outN ?_
    refine VC.rs ?_
    refine VO.mv ?_
    refine VO.as ?_
    refine VO.k5 0 2 3 4 8 ?_
    refine VC.ret ?_
    refine ⟨_, _, res_run (rs := [.tmp 2]) rfl (.tmp rfl .nil), fun W_ hI => out_of (l := [out_m]) hI [101] rfl rfl (mle_refl _) (fun hS_ => ?_)⟩
    dsimp only [packV]
    have he0 : (d0 ++ spareO : Ty.Den (.sl TOp)) = out := by first | rfl | (have : k = 3 := (by omega); subst this; exact ho.symm)
    refine ⟨Value.slice out_A (out.length) (out_c), ?_, ?_⟩
    rotate_left
    · rw [he0]; exact (Ow.up (OwnL.ow h_out rfl) (hS_.1 _ (.head _)))
    all_goals (first | rfl | (simp [*]; done))
theorem KeptOps_ok (W : World) {v0 : Value} {d0 : List DOp} (h0 : Rd (.sl TOp) (wm W) [v0] d0) {v1 : Value} {d1 : List DOp} (h1 : Rd (.sl TOp) (wm W) [v1] d1) (e0 : d1.length ≤ 3518437208800) : CallR Try.prog 35 [v0, v1] W (mnil) (fun v m' => v = .bool (decide (d0 = d1 ++ spareO))) := by
  obtain ⟨A0, c0, rfl, l0, k0⟩ := h0.slice
  simp only [maxLen] at k0
  obtain ⟨A1, c1, rfl, l1, k1⟩ := h1.slice
  simp only [maxLen] at k1
  refine CallR.ofA (n := 9) Try.func35 rfl rfl rfl ?_
  refine VC.rs ?_
  refine VO.as ?_
  refine VO.k3 0 1 4 ?_
  refine VC.rs ?_
  refine VO.mv ?_
  refine VO.mv ?_
  refine VO.callN 101 rfl fnOk29 rfl (fun W hW => LentOps_ok W (Rd.mono h1 (hW.at (i := 0) rfl)) bd) (fun v1 m1 hv1 => ?_)
  obtain ⟨s1_0, rfl, f1_0⟩ := hv1
  obtain ⟨A1_0, c1_0, eq1_0, l1_0, k1_0⟩ := f1_0.slice
  subst eq1_0
  simp only [maxLen] at k1_0
  refine VO.callN 102 rfl fnOk38 rfl (fun W hW => SameOps_ok W (Rd.mono h0 (hW.at (i := 0) rfl)) (OwnL.rd (Ow.ownl f1_0 rfl mnil) (hW.at (i := 101) rfl) (mle_nil _))) (fun v2 m2 hv2 => ?_)
  subst hv2
  refine VO.as ?_
  refine VO.k3 0 1 4 ?_
  refine VC.ret ?_
  refine ⟨_, _, res_run (rs := [.tmp 4]) rfl (.tmp rfl .nil), fun W_ hI => out_of (l := []) hI [] rfl rfl (mle_refl _) (fun hS_ => ?_)⟩
  dsimp only [packV]
  all_goals (first | rfl | (rfl))
theorem opCheck_ok (W : World) {v0 : List Value} {d0 : DOp} (h0 : Rd TOp (wm W) v0 d0) : CallR Try.prog 95 [.agg v0.toArray] W (mnil) (fun v m' => v = .int .i64 (opCheck d0)) := by
  obtain ⟨rfl, p0_1, p0_2⟩ := open_Op (x0 := d0.1) (x1 := d0.2.1) (x2 := d0.2.2) h0
  simp only [maxLen] at p0_1
  simp only [maxLen] at p0_2
  refine CallR.ofA (n := 29) Try.func95 rfl rfl rfl ?_
  refine VC.rs ?_
  refine VO.box (cs := [Value.bool d0.1, str (d0.2.1), str (d0.2.2)]) 102 rfl rfl rfl (fun g1 => ?_)
  refine VO.as ?_
  refine VO.k3 0 1 2 ?_
  refine VC.seq ?_
  refine VC.rs ?_
  refine VO.y rfl (.fa rfl tst49 rfl) ?_
  refine VO.y rfl (.ld1 102 rfl tk9 rfl (cellsAt_one rfl rfl)) ?_
  refine VO.y rfl (.lenT rfl Try.underlying9) ?_
  refine VO.y rfl (.lss rfl rfl) ?_
  refine VO.mv ?_
  refine VO.dec (t := 7) rfl (fun hc3 => ?_) (fun hc3 => ?_)
  · -- T
    refine VO.gN ?_
    refine VO.gN ?_
    refine VO.gN ?_
    refine VO.gN ?_
    refine VO.y rfl (.pT rfl rfl) ?_
    refine VO.mv ?_
    refine VO.gN ?_
    refine VO.gN ?_
    refine VO.gN ?_
    refine VO.gN ?_
    refine VO.y rfl (.pT rfl rfl) ?_
    refine VO.mv ?_
    refine VO.gN ?_
    refine VO.gN ?_
    refine VO.gN ?_
    refine VO.gN ?_
    refine VO.gn rfl (.inr ⟨_, rfl, rfl⟩) ?_
    refine VO.gn rfl (.inr ⟨_, rfl, rfl⟩) ?_
    refine VO.gn rfl (.inr ⟨_, rfl, rfl⟩) ?_
    refine VO.gN ?_
    refine VO.y rfl (.pT rfl rfl) ?_
    refine VO.k4 0 1 2 28 ?_
    refine VC.condT rfl ?_
    refine VC.rs ?_
    refine VO.as ?_
    refine VO.keep [102, 0] [(102, mone g1 (.cells [Value.bool d0.1, str (d0.2.1), str (d0.2.2)].toArray 49 (0, 0))), (0, wm W)] (by kernel_rfl) ?_
    refine VO.k4 0 1 2 28 ?_
    refine VC.ret ?_
    refine outR ?_
    refine ⟨_, _, res_run (rs := [.tmp 2]) rfl (.tmp rfl .nil), fun W_ hI => out_of (l := []) hI [] rfl rfl (mle_refl _) (fun hS_ => ?_)⟩
    dsimp only [packV]
    all_goals (first | rfl | (congr 1; first | exact (opCheck_bad (fun h => by have := h.1; have := h.2.1; have := h.2.2.1; omega)).symm | exact (opCheck_bad (fun h => by rcases h.2.2.2 with e | e <;> first | exact absurd e ‹¬ _ = _› | simp [e] at *)).symm | exact (opCheck_good ⟨by omega, by omega, by omega, by first | exact .inl ‹d0.1 = true› | exact .inr (by simpa using ‹¬ ¬ _›)⟩).symm))
  · -- F
    refine VO.gy rfl ⟨_, rfl, rfl⟩ (.fa rfl tst49 rfl) ?_
    refine VO.gy rfl ⟨_, rfl, rfl⟩ (.ld1 102 rfl tk9 rfl (cellsAt_one rfl rfl)) ?_
    refine VO.gy rfl ⟨_, rfl, rfl⟩ (.lenT rfl Try.underlying9) ?_
    refine VO.gy rfl ⟨_, rfl, rfl⟩ (.gtr rfl rfl) ?_
    refine VO.y rfl (.pF rfl rfl) ?_
    refine VO.mv ?_
    refine VO.dec (t := 13) rfl (fun hc4 => ?_) (fun hc4 => ?_)
    · -- FT
      refine VO.gN ?_
      refine VO.gN ?_
      refine VO.gN ?_
      refine VO.gN ?_
      refine VO.y rfl (.pT rfl rfl) ?_
      refine VO.mv ?_
      refine VO.gN ?_
      refine VO.gN ?_
      refine VO.gN ?_
      refine VO.gN ?_
      refine VO.gn rfl (.inr ⟨_, rfl, rfl⟩) ?_
      refine VO.gn rfl (.inr ⟨_, rfl, rfl⟩) ?_
      refine VO.gn rfl (.inr ⟨_, rfl, rfl⟩) ?_
      refine VO.gN ?_
      refine VO.y rfl (.pT rfl rfl) ?_
      refine VO.k4 0 1 2 28 ?_
      refine VC.condT rfl ?_
      refine VC.rs ?_
      refine VO.as ?_
      refine VO.keep [102, 0] [(102, mone g1 (.cells [Value.bool d0.1, str (d0.2.1), str (d0.2.2)].toArray 49 (0, 0))), (0, wm W)] (by kernel_rfl) ?_
      refine VO.k4 0 1 2 28 ?_
      refine VC.ret ?_
      refine outR ?_
      refine ⟨_, _, res_run (rs := [.tmp 2]) rfl (.tmp rfl .nil), fun W_ hI => out_of (l := []) hI [] rfl rfl (mle_refl _) (fun hS_ => ?_)⟩
      dsimp only [packV]
      all_goals (first | rfl | (congr 1; first | exact (opCheck_bad (fun h => by have := h.1; have := h.2.1; have := h.2.2.1; omega)).symm | exact (opCheck_bad (fun h => by rcases h.2.2.2 with e | e <;> first | exact absurd e ‹¬ _ = _› | simp [e] at *)).symm | exact (opCheck_good ⟨by omega, by omega, by omega, by first | exact .inl ‹d0.1 = true› | exact .inr (by simpa using ‹¬ ¬ _›)⟩).symm))
    · -- FF
      refine VO.gy rfl ⟨_, rfl, rfl⟩ (.fa rfl tst49 rfl) ?_
      refine VO.gy rfl ⟨_, rfl, rfl⟩ (.ld1 102 rfl tk9 rfl (cellsAt_one rfl rfl)) ?_
      refine VO.gy rfl ⟨_, rfl, rfl⟩ (.lenT rfl Try.underlying9) ?_
      refine VO.gy rfl ⟨_, rfl, rfl⟩ (.gtr rfl rfl) ?_
      refine VO.y rfl (.pF rfl rfl) ?_
      refine VO.mv ?_
      refine VO.dec (t := 19) rfl (fun hc5 => ?_) (fun hc5 => ?_)
      · -- FFT
        refine VO.gN ?_
        refine VO.gN ?_
        refine VO.gN ?_
        refine VO.gN ?_
        refine VO.gn rfl (.inr ⟨_, rfl, rfl⟩) ?_
        refine VO.gn rfl (.inr ⟨_, rfl, rfl⟩) ?_
        refine VO.gn rfl (.inr ⟨_, rfl, rfl⟩) ?_
        refine VO.gN ?_
        refine VO.y rfl (.pT rfl rfl) ?_
        refine VO.k4 0 1 2 28 ?_
        refine VC.condT rfl ?_
        refine VC.rs ?_
        refine VO.as ?_
        refine VO.keep [102, 0] [(102, mone g1 (.cells [Value.bool d0.1, str (d0.2.1), str (d0.2.2)].toArray 49 (0, 0))), (0, wm W)] (by kernel_rfl) ?_
        refine VO.k4 0 1 2 28 ?_
        refine VC.ret ?_
        refine outR ?_
        refine ⟨_, _, res_run (rs := [.tmp 2]) rfl (.tmp rfl .nil), fun W_ hI => out_of (l := []) hI [] rfl rfl (mle_refl _) (fun hS_ => ?_)⟩
        dsimp only [packV]
        all_goals (first | rfl | (congr 1; first | exact (opCheck_bad (fun h => by have := h.1; have := h.2.1; have := h.2.2.1; omega)).symm | exact (opCheck_bad (fun h => by rcases h.2.2.2 with e | e <;> first | exact absurd e ‹¬ _ = _› | simp [e] at *)).symm | exact (opCheck_good ⟨by omega, by omega, by omega, by first | exact .inl ‹d0.1 = true› | exact .inr (by simpa using ‹¬ ¬ _›)⟩).symm))
      · -- FFF
        refine VO.gy rfl ⟨_, rfl, rfl⟩ (.fa rfl tst49 rfl) ?_
        refine VO.gy rfl ⟨_, rfl, rfl⟩ (.ld1 102 rfl tk4 rfl (cellsAt_one rfl rfl)) ?_
        refine VO.gy rfl ⟨_, rfl, rfl⟩ (.not rfl) ?_
        refine VO.gy rfl ⟨_, rfl, rfl⟩ (.mv rfl) ?_
        refine VO.decBN (t := 23) rfl (fun hc6 => ?_) (fun hc6 => ?_)
        · -- FFFT
          refine VO.gy rfl ⟨_, rfl, rfl⟩ (.fa rfl tst49 rfl) ?_
          refine VO.gy rfl ⟨_, rfl, rfl⟩ (.ld1 102 rfl tk9 rfl (cellsAt_one rfl rfl)) ?_
          refine VO.gy rfl ⟨_, rfl, rfl⟩ (.sneq rfl rfl) ?_
          refine VO.gy rfl ⟨_, rfl, rfl⟩ (.pT rfl rfl) ?_
          refine VO.y rfl (.pF rfl rfl) ?_
          refine VO.k4 0 1 2 28 ?_
          refine VC.cond rfl (fun hc7 => ?_) (fun hc7 => ?_)
          · -- FFFTT
            refine VC.rs ?_
            refine VO.as ?_
            refine VO.keep [102, 0] [(102, mone g1 (.cells [Value.bool d0.1, str (d0.2.1), str (d0.2.2)].toArray 49 (0, 0))), (0, wm W)] (by kernel_rfl) ?_
            refine VO.k4 0 1 2 28 ?_
            refine VC.ret ?_
            refine outR ?_
            refine ⟨_, _, res_run (rs := [.tmp 2]) rfl (.tmp rfl .nil), fun W_ hI => out_of (l := []) hI [] rfl rfl (mle_refl _) (fun hS_ => ?_)⟩
            dsimp only [packV]
            all_goals (first | rfl | (congr 1; first | exact (opCheck_bad (fun h => by have := h.1; have := h.2.1; have := h.2.2.1; omega)).symm | exact (opCheck_bad (fun h => by rcases h.2.2.2 with e | e <;> first | exact absurd e ‹¬ _ = _› | simp [e] at *)).symm | exact (opCheck_good ⟨by omega, by omega, by omega, by first | exact .inl ‹d0.1 = true› | exact .inr (by simpa using ‹¬ ¬ _›)⟩).symm))
          · -- FFFTF
            refine VC.skip ?_
            refine outN ?_
            refine VC.rs ?_
            refine VO.as ?_
            refine VO.keep [102, 0] [(102, mone g1 (.cells [Value.bool d0.1, str (d0.2.1), str (d0.2.2)].toArray 49 (0, 0))), (0, wm W)] (by kernel_rfl) ?_
            refine VO.k4 0 1 2 28 ?_
            refine VC.ret ?_
            refine ⟨_, _, res_run (rs := [.tmp 2]) rfl (.tmp rfl .nil), fun W_ hI => out_of (l := []) hI [] rfl rfl (mle_refl _) (fun hS_ => ?_)⟩
            dsimp only [packV]
            all_goals (first | rfl | (congr 1; first | exact (opCheck_bad (fun h => by have := h.1; have := h.2.1; have := h.2.2.1; omega)).symm | exact (opCheck_bad (fun h => by rcases h.2.2.2 with e | e <;> first | exact absurd e ‹¬ _ = _› | simp [e] at *)).symm | exact (opCheck_good ⟨by omega, by omega, by omega, by first | exact .inl ‹d0.1 = true› | exact .inr (by simpa using ‹¬ ¬ _›)⟩).symm))
        · -- FFFF
          refine VO.gN ?_
          refine VO.gN ?_
          refine VO.gN ?_
          refine VO.gy rfl ⟨_, rfl, rfl⟩ (.pF rfl rfl) ?_
          refine VO.y rfl (.pF rfl rfl) ?_
          refine VO.k4 0 1 2 28 ?_
          refine VC.condF rfl ?_
          refine VC.skip ?_
          refine outN ?_
          refine VC.rs ?_
          refine VO.as ?_
          refine VO.keep [102, 0] [(102, mone g1 (.cells [Value.bool d0.1, str (d0.2.1), str (d0.2.2)].toArray 49 (0, 0))), (0, wm W)] (by kernel_rfl) ?_
          refine VO.k4 0 1 2 28 ?_
          refine VC.ret ?_
          refine ⟨_, _, res_run (rs := [.tmp 2]) rfl (.tmp rfl .nil), fun W_ hI => out_of (l := []) hI [] rfl rfl (mle_refl _) (fun hS_ => ?_)⟩
          dsimp only [packV]
          all_goals (first | rfl | (congr 1; first | exact (opCheck_bad (fun h => by have := h.1; have := h.2.1; have := h.2.2.1; omega)).symm | exact (opCheck_bad (fun h => by rcases h.2.2.2 with e | e <;> first | exact absurd e ‹¬ _ = _› | simp [e] at *)).symm | exact (opCheck_good ⟨by omega, by omega, by omega, by first | exact .inl ‹d0.1 = true› | exact .inr (by simpa using ‹¬ ¬ _›)⟩).symm))
theorem refOpCheck_ok (W : World) {v0 : List Value} {d0 : DOp} (h0 : Rd TOp (wm W) v0 d0) : CallR Try.prog 99 [.agg v0.toArray] W (mnil) (fun v m' => v = .int .i64 (opCheck d0)) := by
  obtain ⟨rfl, p0_1, p0_2⟩ := open_Op (x0 := d0.1) (x1 := d0.2.1) (x2 := d0.2.2) h0
  simp only [maxLen] at p0_1
  simp only [maxLen] at p0_2
  refine CallR.ofA (n := 29) Try.func99 rfl rfl rfl ?_
  refine VC.rs ?_
  refine VO.box (cs := [Value.bool d0.1, str (d0.2.1), str (d0.2.2)]) 102 rfl rfl rfl (fun g1 => ?_)
  refine VO.as ?_
  refine VO.k3 0 1 2 ?_
  refine VC.seq ?_
  refine VC.rs ?_
  refine VO.y rfl (.fa rfl tst49 rfl) ?_
  refine VO.y rfl (.ld1 102 rfl tk9 rfl (cellsAt_one rfl rfl)) ?_
  refine VO.y rfl (.lenT rfl Try.underlying9) ?_
  refine VO.y rfl (.lss rfl rfl) ?_
  refine VO.mv ?_
  refine VO.dec (t := 7) rfl (fun hc3 => ?_) (fun hc3 => ?_)
  · -- T
    refine VO.gN ?_
    refine VO.gN ?_
    refine VO.gN ?_
    refine VO.gN ?_
    refine VO.y rfl (.pT rfl rfl) ?_
    refine VO.mv ?_
    refine VO.gN ?_
    refine VO.gN ?_
    refine VO.gN ?_
    refine VO.gN ?_
    refine VO.y rfl (.pT rfl rfl) ?_
    refine VO.mv ?_
    refine VO.gN ?_
    refine VO.gN ?_
    refine VO.gN ?_
    refine VO.gN ?_
    refine VO.gn rfl (.inr ⟨_, rfl, rfl⟩) ?_
    refine VO.gn rfl (.inr ⟨_, rfl, rfl⟩) ?_
    refine VO.gn rfl (.inr ⟨_, rfl, rfl⟩) ?_
    refine VO.gN ?_
    refine VO.y rfl (.pT rfl rfl) ?_
    refine VO.k4 0 1 2 28 ?_
    refine VC.condT rfl ?_
    refine VC.rs ?_
    refine VO.as ?_
    refine VO.keep [102, 0] [(102, mone g1 (.cells [Value.bool d0.1, str (d0.2.1), str (d0.2.2)].toArray 49 (0, 0))), (0, wm W)] (by kernel_rfl) ?_
    refine VO.k4 0 1 2 28 ?_
    refine VC.ret ?_
    refine outR ?_
    refine ⟨_, _, res_run (rs := [.tmp 2]) rfl (.tmp rfl .nil), fun W_ hI => out_of (l := []) hI [] rfl rfl (mle_refl _) (fun hS_ => ?_)⟩
    dsimp only [packV]
    all_goals (first | rfl | (congr 1; first | exact (opCheck_bad (fun h => by have := h.1; have := h.2.1; have := h.2.2.1; omega)).symm | exact (opCheck_bad (fun h => by rcases h.2.2.2 with e | e <;> first | exact absurd e ‹¬ _ = _› | simp [e] at *)).symm | exact (opCheck_good ⟨by omega, by omega, by omega, by first | exact .inl ‹d0.1 = true› | exact .inr (by simpa using ‹¬ ¬ _›)⟩).symm))
  · -- F
    refine VO.gy rfl ⟨_, rfl, rfl⟩ (.fa rfl tst49 rfl) ?_
    refine VO.gy rfl ⟨_, rfl, rfl⟩ (.ld1 102 rfl tk9 rfl (cellsAt_one rfl rfl)) ?_
    refine VO.gy rfl ⟨_, rfl, rfl⟩ (.lenT rfl Try.underlying9) ?_
    refine VO.gy rfl ⟨_, rfl, rfl⟩ (.gtr rfl rfl) ?_
    refine VO.y rfl (.pF rfl rfl) ?_
    refine VO.mv ?_
    refine VO.dec (t := 13) rfl (fun hc4 => ?_) (fun hc4 => ?_)
    · -- FT
      refine VO.gN ?_
      refine VO.gN ?_
      refine VO.gN ?_
      refine VO.gN ?_
      refine VO.y rfl (.pT rfl rfl) ?_
      refine VO.mv ?_
      refine VO.gN ?_
      refine VO.gN ?_
      refine VO.gN ?_
      refine VO.gN ?_
      refine VO.gn rfl (.inr ⟨_, rfl, rfl⟩) ?_
      refine VO.gn rfl (.inr ⟨_, rfl, rfl⟩) ?_
      refine VO.gn rfl (.inr ⟨_, rfl, rfl⟩) ?_
      refine VO.gN ?_
      refine VO.y rfl (.pT rfl rfl) ?_
      refine VO.k4 0 1 2 28 ?_
      refine VC.condT rfl ?_
      refine VC.rs ?_
      refine VO.as ?_
      refine VO.keep [102, 0] [(102, mone g1 (.cells [Value.bool d0.1, str (d0.2.1), str (d0.2.2)].toArray 49 (0, 0))), (0, wm W)] (by kernel_rfl) ?_
      refine VO.k4 0 1 2 28 ?_
      refine VC.ret ?_
      refine outR ?_
      refine ⟨_, _, res_run (rs := [.tmp 2]) rfl (.tmp rfl .nil), fun W_ hI => out_of (l := []) hI [] rfl rfl (mle_refl _) (fun hS_ => ?_)⟩
      dsimp only [packV]
      all_goals (first | rfl | (congr 1; first | exact (opCheck_bad (fun h => by have := h.1; have := h.2.1; have := h.2.2.1; omega)).symm | exact (opCheck_bad (fun h => by rcases h.2.2.2 with e | e <;> first | exact absurd e ‹¬ _ = _› | simp [e] at *)).symm | exact (opCheck_good ⟨by omega, by omega, by omega, by first | exact .inl ‹d0.1 = true› | exact .inr (by simpa using ‹¬ ¬ _›)⟩).symm))
    · -- FF
      refine VO.gy rfl ⟨_, rfl, rfl⟩ (.fa rfl tst49 rfl) ?_
      refine VO.gy rfl ⟨_, rfl, rfl⟩ (.ld1 102 rfl tk9 rfl (cellsAt_one rfl rfl)) ?_
      refine VO.gy rfl ⟨_, rfl, rfl⟩ (.lenT rfl Try.underlying9) ?_
      refine VO.gy rfl ⟨_, rfl, rfl⟩ (.gtr rfl rfl) ?_
      refine VO.y rfl (.pF rfl rfl) ?_
      refine VO.mv ?_
      refine VO.dec (t := 19) rfl (fun hc5 => ?_) (fun hc5 => ?_)
      · -- FFT
        refine VO.gN ?_
        refine VO.gN ?_
        refine VO.gN ?_
        refine VO.gN ?_
        refine VO.gn rfl (.inr ⟨_, rfl, rfl⟩) ?_
        refine VO.gn rfl (.inr ⟨_, rfl, rfl⟩) ?_
        refine VO.gn rfl (.inr ⟨_, rfl, rfl⟩) ?_
        refine VO.gN ?_
        refine VO.y rfl (.pT rfl rfl) ?_
        refine VO.k4 0 1 2 28 ?_
        refine VC.condT rfl ?_
        refine VC.rs ?_
        refine VO.as ?_
        refine VO.keep [102, 0] [(102, mone g1 (.cells [Value.bool d0.1, str (d0.2.1), str (d0.2.2)].toArray 49 (0, 0))), (0, wm W)] (by kernel_rfl) ?_
        refine VO.k4 0 1 2 28 ?_
        refine VC.ret ?_
        refine outR ?_
        refine ⟨_, _, res_run (rs := [.tmp 2]) rfl (.tmp rfl .nil), fun W_ hI => out_of (l := []) hI [] rfl rfl (mle_refl _) (fun hS_ => ?_)⟩
        dsimp only [packV]
        all_goals (first | rfl | (congr 1; first | exact (opCheck_bad (fun h => by have := h.1; have := h.2.1; have := h.2.2.1; omega)).symm | exact (opCheck_bad (fun h => by rcases h.2.2.2 with e | e <;> first | exact absurd e ‹¬ _ = _› | simp [e] at *)).symm | exact (opCheck_good ⟨by omega, by omega, by omega, by first | exact .inl ‹d0.1 = true› | exact .inr (by simpa using ‹¬ ¬ _›)⟩).symm))
      · -- FFF
        refine VO.gy rfl ⟨_, rfl, rfl⟩ (.fa rfl tst49 rfl) ?_
        refine VO.gy rfl ⟨_, rfl, rfl⟩ (.ld1 102 rfl tk4 rfl (cellsAt_one rfl rfl)) ?_
        refine VO.gy rfl ⟨_, rfl, rfl⟩ (.not rfl) ?_
        refine VO.gy rfl ⟨_, rfl, rfl⟩ (.mv rfl) ?_
        refine VO.decBN (t := 23) rfl (fun hc6 => ?_) (fun hc6 => ?_)
        · -- FFFT
          refine VO.gy rfl ⟨_, rfl, rfl⟩ (.fa rfl tst49 rfl) ?_
          refine VO.gy rfl ⟨_, rfl, rfl⟩ (.ld1 102 rfl tk9 rfl (cellsAt_one rfl rfl)) ?_
          refine VO.gy rfl ⟨_, rfl, rfl⟩ (.sneq rfl rfl) ?_
          refine VO.gy rfl ⟨_, rfl, rfl⟩ (.pT rfl rfl) ?_
          refine VO.y rfl (.pF rfl rfl) ?_
          refine VO.k4 0 1 2 28 ?_
          refine VC.cond rfl (fun hc7 => ?_) (fun hc7 => ?_)
          · -- FFFTT
            refine VC.rs ?_
            refine VO.as ?_
            refine VO.keep [102, 0] [(102, mone g1 (.cells [Value.bool d0.1, str (d0.2.1), str (d0.2.2)].toArray 49 (0, 0))), (0, wm W)] (by kernel_rfl) ?_
            refine VO.k4 0 1 2 28 ?_
            refine VC.ret ?_
            refine outR ?_
            refine ⟨_, _, res_run (rs := [.tmp 2]) rfl (.tmp rfl .nil), fun W_ hI => out_of (l := []) hI [] rfl rfl (mle_refl _) (fun hS_ => ?_)⟩
            dsimp only [packV]
            all_goals (first | rfl | (congr 1; first | exact (opCheck_bad (fun h => by have := h.1; have := h.2.1; have := h.2.2.1; omega)).symm | exact (opCheck_bad (fun h => by rcases h.2.2.2 with e | e <;> first | exact absurd e ‹¬ _ = _› | simp [e] at *)).symm | exact (opCheck_good ⟨by omega, by omega, by omega, by first | exact .inl ‹d0.1 = true› | exact .inr (by simpa using ‹¬ ¬ _›)⟩).symm))
          · -- FFFTF
            refine VC.skip ?_
            refine outN ?_
            refine VC.rs ?_
            refine VO.as ?_
            refine VO.keep [102, 0] [(102, mone g1 (.cells [Value.bool d0.1, str (d0.2.1), str (d0.2.2)].toArray 49 (0, 0))), (0, wm W)] (by kernel_rfl) ?_
            refine VO.k4 0 1 2 28 ?_
            refine VC.ret ?_
            refine ⟨_, _, res_run (rs := [.tmp 2]) rfl (.tmp rfl .nil), fun W_ hI => out_of (l := []) hI [] rfl rfl (mle_refl _) (fun hS_ => ?_)⟩
            dsimp only [packV]
            all_goals (first | rfl | (congr 1; first | exact (opCheck_bad (fun h => by have := h.1; have := h.2.1; have := h.2.2.1; omega)).symm | exact (opCheck_bad (fun h => by rcases h.2.2.2 with e | e <;> first | exact absurd e ‹¬ _ = _› | simp [e] at *)).symm | exact (opCheck_good ⟨by omega, by omega, by omega, by first | exact .inl ‹d0.1 = true› | exact .inr (by simpa using ‹¬ ¬ _›)⟩).symm))
        · -- FFFF
          refine VO.gN ?_
          refine VO.gN ?_
          refine VO.gN ?_
          refine VO.gy rfl ⟨_, rfl, rfl⟩ (.pF rfl rfl) ?_
          refine VO.y rfl (.pF rfl rfl) ?_
          refine VO.k4 0 1 2 28 ?_
          refine VC.condF rfl ?_
          refine VC.skip ?_
          refine outN ?_
          refine VC.rs ?_
          refine VO.as ?_
          refine VO.keep [102, 0] [(102, mone g1 (.cells [Value.bool d0.1, str (d0.2.1), str (d0.2.2)].toArray 49 (0, 0))), (0, wm W)] (by kernel_rfl) ?_
          refine VO.k4 0 1 2 28 ?_
          refine VC.ret ?_
          refine ⟨_, _, res_run (rs := [.tmp 2]) rfl (.tmp rfl .nil), fun W_ hI => out_of (l := []) hI [] rfl rfl (mle_refl _) (fun hS_ => ?_)⟩
          dsimp only [packV]
          all_goals (first | rfl | (congr 1; first | exact (opCheck_bad (fun h => by have := h.1; have := h.2.1; have := h.2.2.1; omega)).symm | exact (opCheck_bad (fun h => by rcases h.2.2.2 with e | e <;> first | exact absurd e ‹¬ _ = _› | simp [e] at *)).symm | exact (opCheck_good ⟨by omega, by omega, by omega, by first | exact .inl ‹d0.1 = true› | exact .inr (by simpa using ‹¬ ¬ _›)⟩).symm))
theorem within_ok (W : World) (d0 : Int) (h0 : inK .i64 d0) : CallR Try.prog 109 [.int .i64 d0] W (mnil) (fun v m' => v = .bool (decide (1 ≤ d0 ∧ d0 ≤ 1048576))) := by
  have h0' := h0; simp only [inK] at h0'
  refine CallR.ofA (n := 9) Try.func109 rfl rfl rfl ?_
  refine VC.rs ?_
  refine VO.as ?_
  refine VO.k2 0 2 ?_
  refine VC.rs ?_
  refine VO.mv ?_
  refine VO.y rfl (.geq rfl rfl) ?_
  refine VO.mv ?_
  refine VO.dec (t := 5) rfl (fun hc1 => ?_) (fun hc1 => ?_)
  · -- T
    refine VO.gy rfl ⟨_, rfl, rfl⟩ (.mv rfl) ?_
    refine VO.gy rfl ⟨_, rfl, rfl⟩ (.leq rfl rfl) ?_
    refine VO.y rfl (.pT rfl rfl) ?_
    refine VO.as ?_
    refine VO.k2 0 2 ?_
    refine VC.ret ?_
    refine ⟨_, _, res_run (rs := [.tmp 2]) rfl (.tmp rfl .nil), fun W_ hI => out_of (l := []) hI [] rfl rfl (mle_refl _) (fun hS_ => ?_)⟩
    dsimp only [packV]
    all_goals (first | rfl | (simp [*]))
  · -- F
    refine VO.gN ?_
    refine VO.gN ?_
    refine VO.y rfl (.pF rfl rfl) ?_
    refine VO.as ?_
    refine VO.k2 0 2 ?_
    refine VC.ret ?_
    refine ⟨_, _, res_run (rs := [.tmp 2]) rfl (.tmp rfl .nil), fun W_ hI => out_of (l := []) hI [] rfl rfl (mle_refl _) (fun hS_ => ?_)⟩
    dsimp only [packV]
    all_goals (first | rfl | (simp [*]))
end
section
set_option linter.unusedVariables false
def cCheck (c : DCommit) : Int := if 1 ≤ c.1 ∧ c.1 ≤ 1048576 then if 1 ≤ c.2.1 ∧ c.2.1 ≤ 1048576 then batchCheck c.2.2 else 2 else 2
def cFollowsAt : Int → Int → Int → List DCommit → DFault
  | _, _, _, [] => (0, 0)
  | e, n, i, c :: r => if cCheck c ≠ 0 then (cCheck c, i) else if c.2.1 - 1 ≠ n ∨ c.1 < e then (15, i) else cFollowsAt c.1 c.2.1 (i + 1) r
def cFollows (e n : Int) (l : List DCommit) : DFault := cFollowsAt e n 0 l
theorem drop_next {α : Type} {l : List α} {k : Nat} {x : α} (h : l[k]? = some x) : l.drop k = x :: l.drop (k + 1) := by
  obtain ⟨h1, h2⟩ := List.getElem?_eq_some_iff.1 h
  rw [List.drop_eq_getElem_cons h1, h2]
theorem batchCheck_ok {l : List DOp} (h : batchCheck l = 0) : l.length ≤ 8 := by
  unfold batchCheck at h
  split at h
  · omega
  · split at h
    · cases h
    · omega
theorem batchCheck_range (l : List DOp) : 0 ≤ batchCheck l ∧ batchCheck l ≤ 3 := by
  unfold batchCheck
  split
  · omega
  · split
    · omega
    · split <;> omega
theorem cCheck_range (c : DCommit) : 0 ≤ cCheck c ∧ cCheck c ≤ 3 := by
  unfold cCheck
  split
  · split
    · exact batchCheck_range _
    · omega
  · omega
theorem cCheck_ok {c : DCommit} (h : cCheck c = 0) : 1 ≤ c.1 ∧ c.1 ≤ 1048576 ∧ 1 ≤ c.2.1 ∧ c.2.1 ≤ 1048576 ∧ batchCheck c.2.2 = 0 := by
  unfold cCheck at h
  split at h
  · split at h
    · exact ⟨by omega, by omega, by omega, by omega, h⟩
    · cases h
  · cases h
theorem cFollowsAt_ok : ∀ {l : List DCommit} {e n i : Int}, (cFollowsAt e n i l).1 = 0 → ∀ c ∈ l, cCheck c = 0
  | c :: r, e, n, i, h, x, hx => by
    unfold cFollowsAt at h
    split at h
    · exact absurd h (by assumption)
    · rename_i h1
      split at h
      · cases h
      · rcases List.mem_cons.1 hx with rfl | hx
        · exact Decidable.not_not.1 h1
        · exact cFollowsAt_ok h x hx
theorem follows_step {e n i : Int} {l : List DCommit} {k : Nat} {x : DCommit} (h : l[k]? = some x) (h1 : cCheck x = 0) (h2 : ¬ ¬ x.2.1 - 1 = n) (h3 : ¬ x.1 < e) : cFollowsAt e n i (l.drop k) = cFollowsAt x.1 x.2.1 (i + 1) (l.drop (k + 1)) := by
  rw [drop_next h]
  show (if cCheck x ≠ 0 then _ else _) = _
  rw [if_neg (by simpa using h1), if_neg (by simp only [not_or]; exact ⟨h2, h3⟩)]
theorem follows_bad {e n i : Int} {l : List DCommit} {k : Nat} {x : DCommit} (h : l[k]? = some x) (h1 : ¬ cCheck x = 0) : cFollowsAt e n i (l.drop k) = (cCheck x, i) := by
  rw [drop_next h]
  show (if cCheck x ≠ 0 then _ else _) = _
  rw [if_pos h1]
theorem follows_order {e n i : Int} {l : List DCommit} {k : Nat} {x : DCommit} (h : l[k]? = some x) (h1 : cCheck x = 0) (h2 : ¬ x.2.1 - 1 = n ∨ x.1 < e) : cFollowsAt e n i (l.drop k) = (15, i) := by
  rw [drop_next h]
  show (if cCheck x ≠ 0 then _ else _) = _
  rw [if_neg (by simpa using h1), if_pos h2]
theorem all_next {α : Type} {l : List α} {k : Nat} {x : α} {p : α → Prop} (h : ∀ o ∈ l.take k, p o) (hx : l[k]? = some x) (hp : p x) : ∀ o ∈ l.take (k + 1), p o := fun o ho => by
  rw [List.take_add_one, hx] at ho
  rcases List.mem_append.1 ho with h1 | h1
  · exact h o h1
  · simp at h1; rw [h1]; exact hp
theorem bcheck_empty {l : List DOp} (h : (l.length : Int) = 0) : batchCheck l = 2 := if_pos (by omega)
theorem bcheck_long {l : List DOp} (h : (8 : Int) < l.length) : batchCheck l = 3 := by unfold batchCheck; rw [if_neg (by omega), if_pos (by omega)]
theorem bcheck_bad {l : List DOp} {k : Nat} {x : DOp} (h0 : ¬ (l.length : Int) = 0) (h1 : ¬ (8 : Int) < l.length) (hx : l[k]? = some x) (h : ¬ opCheck x = 0) : batchCheck l = opCheck x := by
  have hb : ¬ opOk x := fun e => h (opCheck_good e)
  unfold batchCheck
  rw [if_neg (by omega), if_neg (by omega), if_neg, opCheck_bad hb]
  exact fun e => hb (e x (List.mem_of_getElem? hx))
theorem bcheck_good {l : List DOp} {k : Nat} (h0 : ¬ (l.length : Int) = 0) (h1 : ¬ (8 : Int) < l.length) (h : ∀ o ∈ l.take k, opOk o) (hk : ¬ (k : Int) < l.length) : batchCheck l = 0 := by
  rw [List.take_of_length_le (by omega)] at h
  unfold batchCheck
  rw [if_neg (by omega), if_neg (by omega), if_pos h]
def sGrown (l : List DStart) (c : DCommit) : List DStart := match l.getLast? with
  | some s => if s.1 = c.1 then l else l ++ [(c.1, c.2.1)]
  | none => l ++ [(c.1, c.2.1)]
def sOf (l : List DCommit) : List DStart × DFault := if (cFollows 0 0 l).1 ≠ 0 then ([], cFollows 0 0 l) else (l.foldl sGrown [], (0, 0))
theorem sGrown_same {l : List DStart} {c : DCommit} {k : Nat} {s : DStart} (h : l[k]? = some s) (h0 : k + 1 = l.length) (h1 : s.1 = c.1) : sGrown l c = l := by
  unfold sGrown
  rw [List.getLast?_eq_getElem?, show l.length - 1 = k by omega, h]
  exact if_pos h1
theorem sGrown_new {l : List DStart} {c : DCommit} (h : l = [] ∨ ∃ k s, l[k]? = some s ∧ k + 1 = l.length ∧ ¬ s.1 = c.1) : sGrown l c = l ++ [(c.1, c.2.1)] := by
  unfold sGrown
  rcases h with rfl | ⟨k, s, h1, h0, h2⟩
  · rfl
  · rw [List.getLast?_eq_getElem?, show l.length - 1 = k by omega, h1]
    exact if_neg h2
theorem fold_next {α β : Type} {f : β → α → β} {z : β} {l : List α} {k : Nat} {x : α} (h : l[k]? = some x) : (l.take (k + 1)).foldl f z = f ((l.take k).foldl f z) x := by
  rw [List.take_add_one, h, List.foldl_append]; rfl
theorem sGrown_len (l : List DStart) (c : DCommit) : (sGrown l c).length ≤ l.length + 1 := by
  unfold sGrown
  split
  · split <;> simp
  · simp
theorem fold_len (cs : List DCommit) (z : List DStart) : (cs.foldl sGrown z).length ≤ z.length + cs.length := by
  induction cs generalizing z with
  | nil => simp
  | cons c cs ih => have := ih (sGrown z c); have := sGrown_len z c; simp only [List.foldl_cons, List.length_cons]; omega
def zeroM : DMessage := (0, 0, 0, 0, [], 0, 0, [])
def shipWrong (e : Int) (l : List DCommit) : Int := if e < 1 ∨ 1048576 < e then 2 else if (cFollows 0 0 l).1 ≠ 0 then (cFollows 0 0 l).1 else match l.getLast? with
  | some c => if e < c.1 then 15 else 0
  | none => 0
def shipHello (e : Int) (r : Int) (l : List DCommit) : DMessage × Int := if shipWrong e l ≠ 0 then (zeroM, shipWrong e l) else if r < 1 ∨ 3 < r then (zeroM, 2) else ((1, e, r, (l.length : Int), (sOf l).1, 0, 0, []), 0)
def prevOf (l : List DCommit) (k : Int) : Int := if 0 < k then (match l[(k - 1).toNat]? with | some c => c.1 | none => 0) else 0
def shipNext (e : Int) (l : List DCommit) (k : Int) : DMessage × Int := if shipWrong e l ≠ 0 then (zeroM, shipWrong e l) else if k < 0 ∨ l.length < k ∨ k = 1048576 then (zeroM, 2) else ((2, e, 0, 0, [], k + 1, prevOf l k, (l.drop k.toNat).take 4), 0)
def shipAck (e n : Int) : DMessage × Int := if e < 1 ∨ 1048576 < e ∨ n < 0 ∨ 1048576 < n then (zeroM, 2) else ((3, e, 0, n, [], 0, 0, []), 0)
def exC : List DCommit := [(1, 1, [(false, [107], [])]), (1, 2, [(false, [107], [])]), (1, 3, [(false, [107], [])]), (1, 4, [(false, [107], [])]), (1, 5, [(false, [107], [])]), (3, 6, [(false, [107], [])])]
theorem exC_next {l : List DCommit} {i : Nat} {e : Int} (h : l = exC.take (i - 1)) (h1 : 1 ≤ i) (h6 : i ≤ 6) (he : e = if i = 6 then 3 else 1) : l ++ [(e, (i : Int), [(false, [107], [])])] = exC.take (i + 1 - 1) := by
  subst h; subst he
  match i, h1, h6 with
  | 1, _, _ | 2, _, _ | 3, _, _ | 4, _, _ | 5, _, _ | 6, _, _ => rfl
section
variable {e : Int} {l : List DCommit} {k : Nat} {x : DCommit}
theorem wrong_arg (h : e < 1 ∨ 1048576 < e) : shipWrong e l = 2 := if_pos h
theorem wrong_follows (h1 : ¬ e < 1) (h2 : ¬ 1048576 < e) (h : ¬ (cFollows 0 0 l).1 = 0) : shipWrong e l = (cFollows 0 0 l).1 := by
  unfold shipWrong; rw [if_neg (by omega), if_pos h]
theorem wrong_order (h1 : ¬ e < 1) (h2 : ¬ 1048576 < e) (h : ¬ ¬ (cFollows 0 0 l).1 = 0) (hx : l[k]? = some x) (h0 : k + 1 = l.length) (hl : e < x.1) : shipWrong e l = 15 := by
  unfold shipWrong; rw [if_neg (by omega), if_neg h, List.getLast?_eq_getElem?, show l.length - 1 = k by omega, hx]; exact if_pos hl
theorem wrong_good (h1 : ¬ e < 1) (h2 : ¬ 1048576 < e) (h : ¬ ¬ (cFollows 0 0 l).1 = 0) (hx : l[k]? = some x) (h0 : k + 1 = l.length) (hl : ¬ e < x.1) : shipWrong e l = 0 := by
  unfold shipWrong; rw [if_neg (by omega), if_neg h, List.getLast?_eq_getElem?, show l.length - 1 = k by omega, hx]; exact if_neg hl
theorem wrong_none (h1 : ¬ e < 1) (h2 : ¬ 1048576 < e) (h : ¬ ¬ (cFollows 0 0 l).1 = 0) (h0 : l.length = 0) : shipWrong e l = 0 := by
  unfold shipWrong; rw [if_neg (by omega), if_neg h, List.eq_nil_of_length_eq_zero h0]; rfl
theorem cFollowsAt_range : ∀ (l : List DCommit) (e n i : Int), 0 ≤ (cFollowsAt e n i l).1 ∧ (cFollowsAt e n i l).1 ≤ 15
  | [], _, _, _ => by simp [cFollowsAt]
  | c :: r, e, n, i => by
    unfold cFollowsAt
    split
    · have := cCheck_range c; simp only; omega
    · split
      · simp
      · exact cFollowsAt_range r _ _ _
theorem shipWrong_range (e : Int) (l : List DCommit) : 0 ≤ shipWrong e l ∧ shipWrong e l ≤ 15 := by
  unfold shipWrong
  split
  · omega
  · split
    · exact cFollowsAt_range l 0 0 0
    · split
      · split <;> omega
      · omega
end
theorem clone_nil {m : Mem} {A : Option Addr} {c : Nat} {l : List DOp} (h : Rd (.sl TOp) m [.slice A l.length c] l) (hA : A = none) : l = [] := by
  subst hA
  obtain ⟨A', c', h1, _, _, h4⟩ := h
  rcases h4 with h4 | ⟨g, off, all, k1, _⟩
  · exact List.eq_nil_of_length_eq_zero h4
  · simp only [List.cons.injEq, Value.slice.injEq, and_true] at h1
    rw [← h1.1] at k1; cases k1
section
variable {l : List DCommit} {e n : Int} {r k : Int}
theorem sOf_bad1 (h : ¬ (cFollows 0 0 l).1 = 0) : (sOf l).1 = [] := by unfold sOf; rw [if_pos h]
theorem sOf_bad2 (h : ¬ (cFollows 0 0 l).1 = 0) : (sOf l).2 = cFollows 0 0 l := by unfold sOf; rw [if_pos h]
theorem sOf_good1 (h : ¬ ¬ (cFollows 0 0 l).1 = 0) : (sOf l).1 = l.foldl sGrown [] := by unfold sOf; rw [if_neg h]
theorem sOf_good2 (h : ¬ ¬ (cFollows 0 0 l).1 = 0) : (sOf l).2 = (0, 0) := by unfold sOf; rw [if_neg h]
theorem ack_bad (h : e < 1 ∨ 1048576 < e ∨ n < 0 ∨ 1048576 < n) : shipAck e n = (zeroM, 2) := if_pos h
theorem ack_good (h1 : ¬ e < 1) (h2 : ¬ 1048576 < e) (h3 : ¬ n < 0) (h4 : ¬ 1048576 < n) : shipAck e n = ((3, e, 0, n, [], 0, 0, []), 0) := if_neg (by omega)
theorem hello_wrong (h : ¬ shipWrong e l = 0) : shipHello e r l = (zeroM, shipWrong e l) := if_pos h
theorem hello_arg (h : ¬ ¬ shipWrong e l = 0) (h1 : r < 1 ∨ 3 < r) : shipHello e r l = (zeroM, 2) := by unfold shipHello; rw [if_neg h, if_pos h1]
theorem hello_good (h : ¬ ¬ shipWrong e l = 0) (h1 : ¬ r < 1) (h2 : ¬ 3 < r) : shipHello e r l = ((1, e, r, (l.length : Int), (sOf l).1, 0, 0, []), 0) := by unfold shipHello; rw [if_neg h, if_neg (by omega)]
end
theorem commit_ext {x y : DCommit} (h1 : x.1 = y.1) (h2 : x.2.1 = y.2.1) (h3 : x.2.2 = y.2.2) : x = y := Prod.ext h1 (Prod.ext h2 h3)
theorem message_ext {x y : DMessage} (h1 : x.1 = y.1) (h2 : x.2.1 = y.2.1) (h3 : x.2.2.1 = y.2.2.1) (h4 : x.2.2.2.1 = y.2.2.2.1) (h5 : x.2.2.2.2.1 = y.2.2.2.2.1) (h6 : x.2.2.2.2.2.1 = y.2.2.2.2.2.1) (h7 : x.2.2.2.2.2.2.1 = y.2.2.2.2.2.2.1) (h8 : x.2.2.2.2.2.2.2 = y.2.2.2.2.2.2.2) : x = y :=
  Prod.ext h1 (Prod.ext h2 (Prod.ext h3 (Prod.ext h4 (Prod.ext h5 (Prod.ext h6 (Prod.ext h7 h8))))))
theorem next_list (l : List DCommit) (k : Int) (h0 : ¬ k < 0) (h1 : ¬ (l.length : Int) < k) : (l.take (min (k + 4) (l.length : Int)).toNat).drop k.toNat = (l.drop k.toNat).take 4 := by
  rw [List.drop_take, show (min (k + 4) (l.length : Int)).toNat - k.toNat = min 4 (l.length - k.toNat) by omega]
  rw [← List.take_take, List.take_of_length_le (by simp : (List.drop k.toNat l).length ≤ l.length - k.toNat)]
theorem follows_len : ∀ {l : List DCommit} {e n i : Int}, (cFollowsAt e n i l).1 = 0 → n ≤ 1048576 → (l.length : Int) + n ≤ 1048576
  | [], _, _, _, _, h => by simpa using h
  | c :: r, e, n, i, h, hn => by
    unfold cFollowsAt at h
    split at h
    · exact absurd h (by assumption)
    · rename_i h1
      split at h
      · cases h
      · rename_i h2
        have h3 := cCheck_ok (Decidable.not_not.1 h1)
        have := follows_len h (by omega)
        simp only [List.length_cons]; omega
theorem wrong_len {e : Int} {l : List DCommit} (h : ¬ ¬ shipWrong e l = 0) : (l.length : Int) ≤ 1048576 := by
  have h' := Decidable.not_not.1 h
  unfold shipWrong at h'
  split at h'
  · cases h'
  · split at h'
    · exact absurd h' (by assumption)
    · rename_i h2
      have := follows_len (Decidable.not_not.1 h2) (by omega)
      omega
theorem next_room {e : Int} {l : List DCommit} {a b k : Nat} {x : DCommit} (h : ¬ ¬ shipWrong e l = 0) (hx : ((l.take b).drop a)[k]? = some x) : x.2.2.length ≤ 3518437208800 := by
  have hm : x ∈ l := List.mem_of_mem_take (List.mem_of_mem_drop (List.mem_of_getElem? hx))
  have h' := Decidable.not_not.1 h
  unfold shipWrong at h'
  split at h'
  · cases h'
  · split at h'
    · exact absurd h' (by assumption)
    · rename_i h2
      have := batchCheck_ok (cCheck_ok (cFollowsAt_ok (Decidable.not_not.1 h2) x hm)).2.2.2.2
      omega
section
variable {e k : Int} {l : List DCommit} {x : DCommit}
theorem next_wrong (h : ¬ shipWrong e l = 0) : shipNext e l k = (zeroM, shipWrong e l) := if_pos h
theorem next_arg (h : ¬ ¬ shipWrong e l = 0) (h1 : k < 0 ∨ (l.length : Int) < k ∨ k = 1048576) : shipNext e l k = (zeroM, 2) := by unfold shipNext; rw [if_neg h, if_pos h1]
theorem next_good (h : ¬ ¬ shipWrong e l = 0) (h1 : ¬ k < 0) (h2 : ¬ (l.length : Int) < k) (h3 : ¬ k = 1048576) : shipNext e l k = ((2, e, 0, 0, [], k + 1, prevOf l k, (l.drop k.toNat).take 4), 0) := by unfold shipNext; rw [if_neg h, if_neg (by omega)]
theorem prevOf_pos (h : 0 < k) (hx : l[(k - 1).toNat]? = some x) : prevOf l k = x.1 := by unfold prevOf; rw [if_pos h, hx]
theorem prevOf_zero (h : ¬ 0 < k) : prevOf l k = 0 := if_neg h
end
theorem take_one {α : Type} {l : List α} {k : Nat} {x : α} (h : l[k]? = some x) : l.take (k + 1) = l.take k ++ [x] := by rw [List.take_add_one, h]; rfl
end
section
set_option linter.unusedVariables false
set_option linter.unusedSimpArgs false
set_option maxRecDepth 4000
theorem fnOk109 : fnOk Try.prog 109 = true := by kernel_rfl
theorem fnOk111 : fnOk Try.prog 111 = true := by kernel_rfl
theorem fnOk112 : fnOk Try.prog 112 = true := by kernel_rfl
theorem fnOk133 : fnOk Try.prog 133 = true := by kernel_rfl
theorem fnOk26 : fnOk Try.prog 26 = true := by kernel_rfl
theorem fnOk50 : fnOk Try.prog 50 = true := by kernel_rfl
theorem fnOk52 : fnOk Try.prog 52 = true := by kernel_rfl
theorem fnOk91 : fnOk Try.prog 91 = true := by kernel_rfl
theorem fnOk95 : fnOk Try.prog 95 = true := by kernel_rfl
theorem teq57 (a0 : Int) (a1 : Int) : plainS Try.prog 57 [.int .i64 a0, .int .i64 a1] = true := by kernel_rfl
theorem tk22 : tk Try.prog 22 = some none := by kernel_rfl
theorem tk26 : tk Try.prog 26 = some none := by kernel_rfl
theorem tk3 : tk Try.prog 3 = some none := by kernel_rfl
theorem tk52 : tk Try.prog 52 = some (some 3) := by kernel_rfl
theorem tk57 : tk Try.prog 57 = some (some 2) := by kernel_rfl
theorem tk72 : tk Try.prog 72 = some (some 8) := by kernel_rfl
theorem tsl61 : tsl Try.prog 61 = some (52, 3, 40) := by kernel_rfl
theorem tsl70 : tsl Try.prog 70 = some (90, 2, 16) := by kernel_rfl
theorem tst52 : tst Try.prog 52 = some [(0, 1), (1, 1), (2, 1)] := by kernel_rfl
theorem tst57 : tst Try.prog 57 = some [(0, 1), (1, 1)] := by kernel_rfl
theorem tst72 : tst Try.prog 72 = some [(0, 1), (1, 1), (2, 1), (3, 1), (4, 1), (5, 1), (6, 1), (7, 1)] := by kernel_rfl
theorem tst90 : tst Try.prog 90 = some [(0, 1), (1, 1)] := by kernel_rfl
theorem tz52 : tz Try.prog 52 = some [.int .i64 0, .int .i64 0, .slice none 0 0] := by kernel_rfl
theorem tz57 : tz Try.prog 57 = some [.int .i64 0, .int .i64 0] := by kernel_rfl
theorem tz72 : tz Try.prog 72 = some [.int .i64 0, .int .i64 0, .int .u8 0, .int .i64 0, .slice none 0 0, .int .i64 0, .int .i64 0, .slice none 0 0] := by kernel_rfl
theorem tz90 : tz Try.prog 90 = some [.int .i64 0, .int .i64 0] := by kernel_rfl
theorem bCheck_ok (W : World) {v0 : Value} {d0 : List DOp} (h0 : Rd (.sl TOp) (wm W) [v0] d0) : CallR Try.prog 26 [v0] W (mnil) (fun v m' => v = .int .i64 (batchCheck d0)) := by
  obtain ⟨A0, c0, rfl, l0, k0⟩ := h0.slice
  simp only [maxLen] at k0
  refine CallR.ofA (n := 26) Try.func26 rfl rfl rfl ?_
  refine VC.rs ?_
  refine VO.as ?_
  refine VO.k2 0 2 ?_
  refine VC.seq ?_
  refine VC.block ?_
  refine VC.rs ?_
  refine VO.mv ?_
  refine VO.y rfl (.lenS rfl tsl22) ?_
  refine VO.y rfl (.eql rfl rfl) ?_
  refine VO.as ?_
  refine VO.k3 0 2 6 ?_
  refine VC.cond rfl (fun hc1 => ?_) (fun hc1 => ?_)
  · -- T
    refine VC.rs ?_
    refine VO.as ?_
    refine VO.keep [0] [(0, wm W)] (by kernel_rfl) ?_
    refine VO.k3 0 2 6 ?_
    refine VC.ret ?_
    refine outBR ?_
    refine outR ?_
    refine ⟨_, _, res_run (rs := [.tmp 2]) rfl (.tmp rfl .nil), fun W_ hI => out_of (l := []) hI [] rfl rfl (mle_refl _) (fun hS_ => ?_)⟩
    dsimp only [packV]
    all_goals (first | rfl | (congr 1; first | exact (bcheck_empty ‹_›).symm | exact (bcheck_long ‹_›).symm | exact (bcheck_bad ‹_› ‹_› ‹d0[k]? = some _› ‹_›).symm | exact (bcheck_good ‹¬ (d0.length : Int) = 0› ‹¬ (8 : Int) < d0.length› ha ‹_›).symm))
  · -- F
    refine VC.rs ?_
    refine VO.mv ?_
    refine VO.y rfl (.lenS rfl tsl22) ?_
    refine VO.y rfl (.gtr rfl rfl) ?_
    refine VO.as ?_
    refine VO.keep [0] [(0, wm W)] (by kernel_rfl) ?_
    refine VO.k4 0 2 6 10 ?_
    refine VC.cond rfl (fun hc2 => ?_) (fun hc2 => ?_)
    · -- FT
      refine VC.rs ?_
      refine VO.as ?_
      refine VO.k4 0 2 6 10 ?_
      refine VC.ret ?_
      refine outBR ?_
      refine outR ?_
      refine ⟨_, _, res_run (rs := [.tmp 2]) rfl (.tmp rfl .nil), fun W_ hI => out_of (l := []) hI [] rfl rfl (mle_refl _) (fun hS_ => ?_)⟩
      dsimp only [packV]
      all_goals (first | rfl | (congr 1; first | exact (bcheck_empty ‹_›).symm | exact (bcheck_long ‹_›).symm | exact (bcheck_bad ‹_› ‹_› ‹d0[k]? = some _› ‹_›).symm | exact (bcheck_good ‹¬ (d0.length : Int) = 0› ‹¬ (8 : Int) < d0.length› ha ‹_›).symm))
    · -- FF
      refine VC.skip ?_
      refine outBN ?_
      refine outN ?_
      refine VC.seq ?_
      refine VC.rs ?_
      refine VO.mv ?_
      refine VO.y rfl (.lenS rfl tsl22) ?_
      refine VO.mv ?_
      refine VO.k7 0 2 6 10 14 15 16 ?_
      refine VC.block ?_
      refine VC.loop (G := Nat) (fun k => [(16, Value.int .i64 (((k : Nat) : Int))), (0, Value.slice A0 (d0.length) (c0)), (6, Value.bool (decide (((d0.length : Nat) : Int) = 0))), (10, Value.bool (decide (8 < ((d0.length : Nat) : Int)))), (14, Value.slice A0 (d0.length) (c0)), (15, Value.int .i64 (((d0.length : Nat) : Int)))]) (fun k => [(0, wm W)]) (fun k => (k ≤ d0.length) ∧ (∀ o ∈ d0.take k, opOk o)) (fun k => d0.length - k) 0 (⟨by omega, by simp⟩) ⟨⟨rfl, rfl, rfl, rfl, rfl, rfl, trivial⟩, fun _ h => h.sub [0]⟩ ?_
      rintro k ⟨hk, ha⟩
      refine VC.rs ?_
      refine VO.y rfl (.lss rfl rfl) ?_
      refine VO.k7 0 6 10 14 15 16 17 ?_
      refine VC.seq ?_
      refine VC.cond rfl (fun hc3 => ?_) (fun hc3 => ?_)
      · -- FFT
        refine VC.skip ?_
        refine outN ?_
        refine VC.seq ?_
        refine VC.block ?_
        refine VC.rs ?_
        obtain ⟨x4, hx4⟩ : ∃ z_, (d0)[k]? = some z_ := ⟨_, List.getElem?_eq_getElem bd⟩
        obtain ⟨gg4, oo4, ec4, ea4, hce4, hre4⟩ := h0.elem hx4
        cases ea4
        obtain ⟨rfl, q4_1, q4_2⟩ := open_Op (x0 := x4.1) (x1 := x4.2.1) (x2 := x4.2.2) hre4
        simp only [maxLen] at q4_1
        simp only [maxLen] at q4_2
        refine VO.y rfl (.ixI k rfl rfl tsl22 rfl bd) ?_
        refine VO.y rfl (.ldA 0 rfl tk49 rfl hce4) ?_
        refine VO.alloc 106 rfl tz49 (fun g5 => ?_)
        refine VO.store (k := 3) (c' := [Value.bool x4.1, str (x4.2.1), str (x4.2.2)]) 106 rfl rfl (.inl tk49) rfl rfl rfl rfl rfl ?_
        refine VO.keep [106, 0] [(106, mone g5 (.cells [Value.bool x4.1, str (x4.2.1), str (x4.2.2)].toArray 49 (0, 0))), (0, wm W)] (by kernel_rfl) ?_
        refine VO.k8 0 4 6 10 14 15 16 17 ?_
        refine VC.rs ?_
        refine VO.y rfl (.ldA 106 rfl tk49 rfl (cellsAt_one rfl rfl)) ?_
        refine VO.callN 107 rfl fnOk95 rfl (fun W hW => opCheck_ok W (Rd.mono hre4 (hW.at (i := 0) rfl))) (fun v7 m7 hv7 => ?_)
        subst hv7
        refine VO.as ?_
        refine VO.k9 0 4 5 6 10 14 15 16 17 ?_
        refine VC.rs ?_
        refine VO.mv ?_
        refine VO.y rfl (.neq rfl rfl) ?_
        refine VO.k10 0 4 5 6 10 14 15 16 17 23 ?_
        refine VC.cond rfl (fun hc8 => ?_) (fun hc8 => ?_)
        · -- FFTT
          refine VC.rs ?_
          refine VO.mv ?_
          refine VO.as ?_
          refine VO.keep [106, 0] [(106, mone g5 (.cells [Value.bool x4.1, str (x4.2.1), str (x4.2.2)].toArray 49 (0, 0))), (0, wm W)] (by kernel_rfl) ?_
          refine VO.k11 0 2 4 5 6 10 14 15 16 17 23 ?_
          refine VC.ret ?_
          refine outBR ?_
          refine outR ?_
          refine outR ?_
          refine outBR ?_
          refine outR ?_
          refine ⟨_, _, res_run (rs := [.tmp 2]) rfl (.tmp rfl .nil), fun W_ hI => out_of (l := []) hI [] rfl rfl (mle_refl _) (fun hS_ => ?_)⟩
          dsimp only [packV]
          all_goals (first | rfl | (congr 1; first | exact (bcheck_empty ‹_›).symm | exact (bcheck_long ‹_›).symm | exact (bcheck_bad ‹_› ‹_› ‹d0[k]? = some _› ‹_›).symm | exact (bcheck_good ‹¬ (d0.length : Int) = 0› ‹¬ (8 : Int) < d0.length› ha ‹_›).symm))
        · -- FFTF
          refine VC.skip ?_
          refine outBN ?_
          refine outN ?_
          refine VC.reg ?_
          refine VO.y rfl (.add (c := ((k + 1 : Nat) : Int)) rfl rfl (by omega) ⟨bd, bd⟩) ?_
          refine VO.mv ?_
          refine VO.keep [106, 0] [(106, mone g5 (.cells [Value.bool x4.1, str (x4.2.1), str (x4.2.2)].toArray 49 (0, 0))), (0, wm W)] (by kernel_rfl) ?_
          refine VO.k10 0 4 5 6 10 14 15 16 17 23 ?_
          exact outN ⟨k + 1, ⟨by omega, by exact all_next ha ‹d0[k]? = some _› (opOk_of (Decidable.not_not.1 ‹¬ ¬ _›))⟩, bd, ⟨⟨rfl, rfl, rfl, rfl, rfl, rfl, trivial⟩, fun _ h => Inv.sub h [0]⟩⟩
      · -- FFF
        refine VC.exit ?_
        refine outE ?_
        refine outE ?_
        refine outBB ?_
        refine outN ?_
        refine VC.rs ?_
        refine VO.as ?_
        refine VO.keep [0] [(0, wm W)] (by kernel_rfl) ?_
        refine VO.k8 0 2 6 10 14 15 16 17 ?_
        refine VC.ret ?_
        refine ⟨_, _, res_run (rs := [.tmp 2]) rfl (.tmp rfl .nil), fun W_ hI => out_of (l := []) hI [] rfl rfl (mle_refl _) (fun hS_ => ?_)⟩
        dsimp only [packV]
        all_goals (first | rfl | (congr 1; first | exact (bcheck_empty ‹_›).symm | exact (bcheck_long ‹_›).symm | exact (bcheck_bad ‹_› ‹_› ‹d0[k]? = some _› ‹_›).symm | exact (bcheck_good ‹¬ (d0.length : Int) = 0› ‹¬ (8 : Int) < d0.length› ha ‹_›).symm))
theorem cCheck_ok_ (W : World) {v0 : List Value} {d0 : DCommit} (h0 : Rd TCommit (wm W) v0 d0) : CallR Try.prog 50 [.agg v0.toArray] W (mnil) (fun v m' => v = .int .i64 (cCheck d0)) := by
  obtain ⟨p0_A2, p0_c2, rfl, p0_0, p0_1, p0_2⟩ := open_Commit (x0 := d0.1) (x1 := d0.2.1) (x2 := d0.2.2) h0
  simp only [inK] at p0_0
  simp only [inK] at p0_1
  have p0_r2 := Rd.room p0_2
  refine CallR.ofA (n := 16) Try.func50 rfl rfl rfl ?_
  refine VC.rs ?_
  refine VO.box (cs := [Value.int .i64 (d0.1), Value.int .i64 (d0.2.1), Value.slice p0_A2 (d0.2.2.length) (p0_c2)]) 102 rfl rfl rfl (fun g1 => ?_)
  refine VO.as ?_
  refine VO.k3 0 1 2 ?_
  refine VC.seq ?_
  refine VC.rs ?_
  refine VO.y rfl (.fa rfl tst52 rfl) ?_
  refine VO.y rfl (.ld1 102 rfl tk3 rfl (cellsAt_one rfl rfl)) ?_
  refine VO.callN 103 rfl fnOk109 rfl (fun W hW => within_ok W d0.1 bdk) (fun v3 m3 hv3 => ?_)
  subst hv3
  refine VO.y rfl (.notD rfl) ?_
  refine VO.mv ?_
  refine VO.dec (t := 7) rfl (fun hc4 => ?_) (fun hc4 => ?_)
  · -- T
    refine VO.gN ?_
    refine VO.gN ?_
    refine VO.gN ?_
    refine VO.gN ?_
    refine VO.y rfl (.pT rfl rfl) ?_
    refine VO.k4 0 1 2 12 ?_
    refine VC.condT rfl ?_
    refine VC.rs ?_
    refine VO.as ?_
    refine VO.keep [102, 0] [(102, mone g1 (.cells [Value.int .i64 (d0.1), Value.int .i64 (d0.2.1), Value.slice p0_A2 (d0.2.2.length) (p0_c2)].toArray 52 (0, 0))), (0, wm W)] (by kernel_rfl) ?_
    refine VO.k4 0 1 2 12 ?_
    refine VC.ret ?_
    refine outR ?_
    refine ⟨_, _, res_run (rs := [.tmp 2]) rfl (.tmp rfl .nil), fun W_ hI => out_of (l := []) hI [] rfl rfl (mle_refl _) (fun hS_ => ?_)⟩
    dsimp only [packV]
    all_goals (first | rfl | (unfold cCheck; congr 1; split <;> (try split) <;> first | rfl | omega))
  · -- F
    refine VO.gy rfl ⟨_, rfl, rfl⟩ (.fa rfl tst52 rfl) ?_
    refine VO.gy rfl ⟨_, rfl, rfl⟩ (.ld1 102 rfl tk3 rfl (cellsAt_one rfl rfl)) ?_
    refine VO.gcallN 105 rfl ⟨_, rfl, rfl⟩ fnOk109 rfl (fun W hW => within_ok W d0.2.1 bdk) (fun v5 m5 hv5 => ?_)
    subst hv5
    refine VO.gy rfl ⟨_, rfl, rfl⟩ (.notD rfl) ?_
    refine VO.y rfl (.pF rfl rfl) ?_
    refine VO.k4 0 1 2 12 ?_
    refine VC.cond rfl (fun hc6 => ?_) (fun hc6 => ?_)
    · -- FT
      refine VC.rs ?_
      refine VO.as ?_
      refine VO.keep [102, 0] [(102, mone g1 (.cells [Value.int .i64 (d0.1), Value.int .i64 (d0.2.1), Value.slice p0_A2 (d0.2.2.length) (p0_c2)].toArray 52 (0, 0))), (0, wm W)] (by kernel_rfl) ?_
      refine VO.k4 0 1 2 12 ?_
      refine VC.ret ?_
      refine outR ?_
      refine ⟨_, _, res_run (rs := [.tmp 2]) rfl (.tmp rfl .nil), fun W_ hI => out_of (l := []) hI [] rfl rfl (mle_refl _) (fun hS_ => ?_)⟩
      dsimp only [packV]
      all_goals (first | rfl | (unfold cCheck; congr 1; split <;> (try split) <;> first | rfl | omega))
    · -- FF
      refine VC.skip ?_
      refine outN ?_
      refine VC.rs ?_
      refine VO.y rfl (.fa rfl tst52 rfl) ?_
      refine VO.y rfl (.ld1 102 rfl tk22 rfl (cellsAt_one rfl rfl)) ?_
      refine VO.callN 107 rfl fnOk26 rfl (fun W hW => bCheck_ok W (Rd.mono p0_2 (hW.at (i := 0) rfl))) (fun v7 m7 hv7 => ?_)
      subst hv7
      have hfa8 := batchCheck_range d0.2.2
      refine VO.as ?_
      refine VO.keep [102, 0] [(102, mone g1 (.cells [Value.int .i64 (d0.1), Value.int .i64 (d0.2.1), Value.slice p0_A2 (d0.2.2.length) (p0_c2)].toArray 52 (0, 0))), (0, wm W)] (by kernel_rfl) ?_
      refine VO.k4 0 1 2 12 ?_
      refine VC.ret ?_
      refine ⟨_, _, res_run (rs := [.tmp 2]) rfl (.tmp rfl .nil), fun W_ hI => out_of (l := []) hI [] rfl rfl (mle_refl _) (fun hS_ => ?_)⟩
      dsimp only [packV]
      all_goals (first | rfl | (unfold cCheck; congr 1; split <;> (try split) <;> first | rfl | omega))
theorem follows_ok (W : World) (d0 : Int) (h0 : inK .i64 d0) (d1 : Int) (h1 : inK .i64 d1) {v2 : Value} {d2 : List DCommit} (h2 : Rd (.sl TCommit) (wm W) [v2] d2) : CallR Try.prog 52 [.int .i64 d0, .int .i64 d1, v2] W (mnil) (fun v m' => ∃ (s0 : List Value), v = .agg s0.toArray ∧ Ow TFault m' s0 (cFollows d0 d1 d2)) := by
  have h0' := h0; simp only [inK] at h0'
  have h1' := h1; simp only [inK] at h1'
  obtain ⟨A2, c2, rfl, l2, k2⟩ := h2.slice
  simp only [maxLen] at k2
  refine CallR.ofA (n := 49) Try.func52 rfl rfl rfl ?_
  refine VC.rs ?_
  refine VO.alloc 102 rfl tz57 (fun g1 => ?_)
  refine VO.k4 0 1 2 6 ?_
  refine VC.seq ?_
  refine VC.rs ?_
  refine VO.mv ?_
  refine VO.y rfl (.lenS rfl tsl61) ?_
  refine VO.mv ?_
  refine VO.k7 0 1 2 6 10 11 12 ?_
  refine VC.block ?_
  refine VC.loop (G := Nat × Int × Int) (fun g => [(0, Value.int .i64 ((g.2.1))), (1, Value.int .i64 ((g.2.2))), (12, Value.int .i64 ((((g.1) : Nat) : Int))), (2, Value.slice A2 (d2.length) (c2)), (6, Value.pointer (some ⟨g1, 0, none⟩)), (10, Value.slice A2 (d2.length) (c2)), (11, Value.int .i64 (((d2.length : Nat) : Int)))]) (fun g => [(102, mone g1 (.cells [Value.int .i64 (0), Value.int .i64 (0)].toArray 57 (0, 0))), (0, wm W)]) (fun g => ((g.1) ≤ d2.length) ∧ (cFollows d0 d1 d2 = cFollowsAt (g.2.1) (g.2.2) (g.1) (d2.drop (g.1)))) (fun g => d2.length - (g.1)) (0, d0, d1) (⟨by omega, by rfl⟩) ⟨⟨rfl, rfl, rfl, rfl, rfl, rfl, rfl, trivial⟩, fun _ h => h.sub [102, 0]⟩ ?_
  rintro ⟨k, e, nn⟩ ⟨hk, hf⟩
  replace hk : k ≤ d2.length := hk
  replace hf : cFollows d0 d1 d2 = cFollowsAt e nn k (d2.drop k) := hf
  show VC _ _ _ _ _ [(0, Value.int .i64 (e)), (1, Value.int .i64 (nn)), (12, Value.int .i64 (((k : Nat) : Int))), (2, Value.slice A2 (d2.length) (c2)), (6, Value.pointer (some ⟨g1, 0, none⟩)), (10, Value.slice A2 (d2.length) (c2)), (11, Value.int .i64 (((d2.length : Nat) : Int)))] [(102, mone g1 (.cells [Value.int .i64 (0), Value.int .i64 (0)].toArray 57 (0, 0))), (0, wm W)]
  refine VC.rs ?_
  refine VO.y rfl (.lss rfl rfl) ?_
  refine VO.keep [102, 0] [(102, mone g1 (.cells [Value.int .i64 (0), Value.int .i64 (0)].toArray 57 (0, 0))), (0, wm W)] (by kernel_rfl) ?_
  refine VO.k8 0 1 2 6 10 11 12 13 ?_
  refine VC.seq ?_
  refine VC.cond rfl (fun hc3 => ?_) (fun hc3 => ?_)
  · -- T
    refine VC.skip ?_
    refine outN ?_
    refine VC.seq ?_
    refine VC.block ?_
    refine VC.rs ?_
    refine VO.mv ?_
    obtain ⟨x4, hx4⟩ : ∃ z_, (d2)[k]? = some z_ := ⟨_, List.getElem?_eq_getElem (by first | omega | (simp only [List.length_append, List.length_nil, List.length_cons, List.length_take, List.length_drop] at *; omega) | (have := cCheck_ok ‹cCheck _ = 0›; omega))⟩
    obtain ⟨gg4, oo4, ec4, ea4, hce4, hre4⟩ := h2.elem hx4
    cases ea4
    obtain ⟨q4_A2, q4_c2, rfl, q4_0, q4_1, q4_2⟩ := open_Commit (x0 := x4.1) (x1 := x4.2.1) (x2 := x4.2.2) hre4
    simp only [inK] at q4_0
    simp only [inK] at q4_1
    have q4_r2 := Rd.room q4_2
    refine VO.y rfl (.ixI k rfl rfl tsl61 rfl (by first | omega | (simp only [List.length_append, List.length_nil, List.length_cons, List.length_take, List.length_drop] at *; omega) | (have := cCheck_ok ‹cCheck _ = 0›; omega))) ?_
    refine VO.y rfl (.ldA 0 rfl tk52 rfl hce4) ?_
    refine VO.alloc 106 rfl tz52 (fun g5 => ?_)
    refine VO.as ?_
    refine VO.store (k := 3) (c' := [Value.int .i64 (x4.1), Value.int .i64 (x4.2.1), Value.slice q4_A2 (x4.2.2.length) (q4_c2)]) 106 rfl rfl (.inl tk52) rfl rfl rfl rfl rfl ?_
    refine VO.k10 0 1 2 6 7 8 10 11 12 13 ?_
    refine VC.rs ?_
    refine VO.y rfl (.ldA 106 rfl tk52 rfl (cellsAt_one rfl rfl)) ?_
    refine VO.callN 107 rfl fnOk50 rfl (fun W hW => cCheck_ok_ W (Rd.mono hre4 (hW.at (i := 0) rfl))) (fun v7 m7 hv7 => ?_)
    subst hv7
    have hfa8 := cCheck_range x4
    refine VO.mv ?_
    refine VO.y rfl (.bst (cs := [Value.int .i64 (cCheck x4), Value.int .i64 (((k : Nat) : Int))]) rfl tst57 tz57 rfl) ?_
    refine VO.alloc 110 rfl tz57 (fun g9 => ?_)
    refine VO.store (k := 2) (c' := [Value.int .i64 (cCheck x4), Value.int .i64 (((k : Nat) : Int))]) 110 rfl rfl (.inl tk57) rfl rfl rfl rfl rfl ?_
    refine VO.k11 0 1 2 6 7 8 9 10 11 12 13 ?_
    refine VC.seq ?_
    refine VC.rs ?_
    refine VO.y rfl (.fa rfl tst57 rfl) ?_
    refine VO.y rfl (.ld1 110 rfl tk26 rfl (cellsAt_one rfl rfl)) ?_
    refine VO.y rfl (.eql rfl rfl) ?_
    refine VO.mv ?_
    refine VO.dec (t := 24) rfl (fun hc11 => ?_) (fun hc11 => ?_)
    · -- TT
      refine VO.gy rfl ⟨_, rfl, rfl⟩ (.fa rfl tst52 rfl) ?_
      refine VO.gy rfl ⟨_, rfl, rfl⟩ (.ld1 106 rfl tk3 rfl (cellsAt_one rfl rfl)) ?_
      refine VO.gy rfl ⟨_, rfl, rfl⟩ (.sub rfl rfl rfl ⟨by first | omega | (simp only [List.length_append, List.length_nil, List.length_cons, List.length_take, List.length_drop] at *; omega) | (have := cCheck_ok ‹cCheck _ = 0›; omega), by first | omega | (simp only [List.length_append, List.length_nil, List.length_cons, List.length_take, List.length_drop] at *; omega) | (have := cCheck_ok ‹cCheck _ = 0›; omega)⟩) ?_
      refine VO.gy rfl ⟨_, rfl, rfl⟩ (.mv rfl) ?_
      refine VO.gy rfl ⟨_, rfl, rfl⟩ (.neq rfl rfl) ?_
      refine VO.gy rfl ⟨_, rfl, rfl⟩ (.mv rfl) ?_
      refine VO.dec (t := 30) rfl (fun hc12 => ?_) (fun hc12 => ?_)
      · -- TTT
        refine VO.gN ?_
        refine VO.gN ?_
        refine VO.gN ?_
        refine VO.gN ?_
        refine VO.gy rfl ⟨_, rfl, rfl⟩ (.pT rfl rfl) ?_
        refine VO.y rfl (.pT rfl rfl) ?_
        refine VO.keep [110, 106, 102, 0] [(110, mone g9 (.cells [Value.int .i64 (cCheck x4), Value.int .i64 (((k : Nat) : Int))].toArray 57 (0, 0))), (106, mone g5 (.cells [Value.int .i64 (x4.1), Value.int .i64 (x4.2.1), Value.slice q4_A2 (x4.2.2.length) (q4_c2)].toArray 52 (0, 0))), (102, mone g1 (.cells [Value.int .i64 (0), Value.int .i64 (0)].toArray 57 (0, 0))), (0, wm W)] (by kernel_rfl) ?_
        refine VO.k12 0 1 2 6 7 8 9 10 11 12 13 36 ?_
        refine VC.condT rfl ?_
        refine VC.reg ?_
        refine VO.y rfl (.fa rfl tst57 rfl) ?_
        refine VO.store (k := 1) (c' := [Value.int .i64 (15), Value.int .i64 (((k : Nat) : Int))]) 110 rfl rfl (.inr ⟨tk26, rfl⟩) rfl rfl rfl rfl rfl ?_
        refine VO.k12 0 1 2 6 7 8 9 10 11 12 13 36 ?_
        refine outN ?_
        refine VC.seq ?_
        refine VC.rs ?_
        refine VO.y rfl (.ldA 110 rfl tk57 rfl (cellsAt_one rfl rfl)) ?_
        refine VO.mv ?_
        refine VO.y rfl (.bst (cs := [Value.int .i64 (0), Value.int .i64 (((k : Nat) : Int))]) rfl tst57 tz57 rfl) ?_
        refine VO.y rfl (.stneq (p := 15 = 0 ∧ ((k : Nat) : Int) = ((k : Nat) : Int)) rfl rfl (teq57 15 ((k : Nat) : Int)) (teq57 0 ((k : Nat) : Int)) (by simp [ceq, ba_toList])) ?_
        refine VO.k13 0 1 2 6 7 8 9 10 11 12 13 36 41 ?_
        refine VC.cond rfl (fun hc13 => ?_) (fun hc13 => ?_)
        · -- TTTT
          refine VC.rs ?_
          refine VO.y rfl (.ldA 110 rfl tk57 rfl (cellsAt_one rfl rfl)) ?_
          refine VO.store (k := 2) (c' := [Value.int .i64 (15), Value.int .i64 (((k : Nat) : Int))]) 102 rfl rfl (.inl tk57) rfl rfl rfl rfl rfl ?_
          refine VO.keep [110, 106, 102, 0] [(110, mone g9 (.cells [Value.int .i64 (15), Value.int .i64 (((k : Nat) : Int))].toArray 57 (0, 0))), (106, mone g5 (.cells [Value.int .i64 (x4.1), Value.int .i64 (x4.2.1), Value.slice q4_A2 (x4.2.2.length) (q4_c2)].toArray 52 (0, 0))), (102, mone g1 (.cells [Value.int .i64 (15), Value.int .i64 (((k : Nat) : Int))].toArray 57 (0, 0))), (0, wm W)] (by kernel_rfl) ?_
          refine VO.k13 0 1 2 6 7 8 9 10 11 12 13 36 41 ?_
          refine VC.ret ?_
          refine outR ?_
          refine outBR ?_
          refine outR ?_
          refine outR ?_
          refine outBR ?_
          refine outR ?_
          refine ⟨_, _, res_run (rs := [.cell 6 57]) rfl (.agg 102 rfl tk57 rfl ⟨_, _, _, mone_self _ _, Nat.le_of_ble_eq_true rfl, rfl⟩ .nil), fun W_ hI => out_of (l := []) hI [] rfl rfl (mle_refl _) (fun hS_ => ?_)⟩
          dsimp only [packV]
          have he0 : (cFollows d0 d1 d2 : Ty.Den TFault) = (15, ((k : Nat) : Int)) := by first | rfl | (first | (rw [hf, List.drop_of_length_le (by omega)]; rfl) | (rw [hf, follows_bad ‹d2[k]? = some _› (by first | assumption | omega)]) | (rw [hf, follows_order ‹d2[k]? = some _› (by assumption) (by omega)]) | (exfalso; omega))
          refine ⟨[Value.int .i64 (15), Value.int .i64 (((k : Nat) : Int))], ?_, ?_⟩
          rotate_left
          · rw [he0]; exact (Ow.of (m := mnil) rfl (mk_Fault (m := _) 15 ((k : Nat) : Int) (by simp only [inK]; (first | omega | (simp only [List.length_append, List.length_nil, List.length_cons, List.length_take, List.length_drop] at *; omega) | (have := cCheck_ok ‹cCheck _ = 0›; omega))) (by simp only [inK]; (first | omega | (simp only [List.length_append, List.length_nil, List.length_cons, List.length_take, List.length_drop] at *; omega) | (have := cCheck_ok ‹cCheck _ = 0›; omega)))))
          all_goals (first | rfl | (rfl))
        · -- TTTF
          refine VC.skip ?_
          refine outN ?_
          refine VC.regD _ 5 [(0, true), (1, true), (2, true), (3, true), (4, true)] follows (by kernel_rfl) (fun _ h => h.sub [110, 106, 102, 0]) ?_
          refine VD.y rfl rfl (.inl rfl) (.fa rfl tst52 rfl) ?_
          refine VD.y rfl rfl (.inl rfl) (.ld1 106 rfl tk3 rfl (cellsAt_one rfl rfl)) ?_
          refine VD.y rfl rfl (.inl rfl) (.fa rfl tst52 rfl) ?_
          refine VD.y rfl rfl (.inl rfl) (.ld1 106 rfl tk3 rfl (cellsAt_one rfl rfl)) ?_
          refine VD.y rfl rfl (.inl rfl) (.as rfl) ?_
          refine VD.nil rfl ?_ rfl
          refine VO.as ?_
          refine VO.keep [110, 106, 102, 0] [(110, mone g9 (.cells [Value.int .i64 (15), Value.int .i64 (((k : Nat) : Int))].toArray 57 (0, 0))), (106, mone g5 (.cells [Value.int .i64 (x4.1), Value.int .i64 (x4.2.1), Value.slice q4_A2 (x4.2.2.length) (q4_c2)].toArray 52 (0, 0))), (102, mone g1 (.cells [Value.int .i64 (0), Value.int .i64 (0)].toArray 57 (0, 0))), (0, wm W)] (by kernel_rfl) ?_
          refine VO.k13 0 1 2 6 7 8 9 10 11 12 13 36 41 ?_
          refine outBN ?_
          refine outN ?_
          refine VC.reg ?_
          refine VO.y rfl (.add (c := ((k + 1 : Nat) : Int)) rfl rfl (by omega) ⟨by first | omega | (simp only [List.length_append, List.length_nil, List.length_cons, List.length_take, List.length_drop] at *; omega) | (have := cCheck_ok ‹cCheck _ = 0›; omega), by first | omega | (simp only [List.length_append, List.length_nil, List.length_cons, List.length_take, List.length_drop] at *; omega) | (have := cCheck_ok ‹cCheck _ = 0›; omega)⟩) ?_
          refine VO.mv ?_
          refine VO.k13 0 1 2 6 7 8 9 10 11 12 13 36 41 ?_
          exact outN ⟨⟨k + 1, x4.1, x4.2.1⟩, ⟨by omega, by first | (exfalso; omega) | (rw [hf, follows_step ‹d2[k]? = some _› (by first | assumption | omega) (by omega) (by omega)]; rfl)⟩, by first | omega | (simp only [List.length_append, List.length_nil, List.length_cons, List.length_take, List.length_drop] at *; omega) | (have := cCheck_ok ‹cCheck _ = 0›; omega), ⟨⟨rfl, rfl, rfl, rfl, rfl, rfl, rfl, trivial⟩, fun _ h => Inv.sub h [102, 0]⟩⟩
      · -- TTF
        refine VO.gy rfl ⟨_, rfl, rfl⟩ (.fa rfl tst52 rfl) ?_
        refine VO.gy rfl ⟨_, rfl, rfl⟩ (.ld1 106 rfl tk3 rfl (cellsAt_one rfl rfl)) ?_
        refine VO.gy rfl ⟨_, rfl, rfl⟩ (.mv rfl) ?_
        refine VO.gy rfl ⟨_, rfl, rfl⟩ (.lss rfl rfl) ?_
        refine VO.gy rfl ⟨_, rfl, rfl⟩ (.pF rfl rfl) ?_
        refine VO.y rfl (.pT rfl rfl) ?_
        refine VO.keep [110, 106, 102, 0] [(110, mone g9 (.cells [Value.int .i64 (cCheck x4), Value.int .i64 (((k : Nat) : Int))].toArray 57 (0, 0))), (106, mone g5 (.cells [Value.int .i64 (x4.1), Value.int .i64 (x4.2.1), Value.slice q4_A2 (x4.2.2.length) (q4_c2)].toArray 52 (0, 0))), (102, mone g1 (.cells [Value.int .i64 (0), Value.int .i64 (0)].toArray 57 (0, 0))), (0, wm W)] (by kernel_rfl) ?_
        refine VO.k12 0 1 2 6 7 8 9 10 11 12 13 36 ?_
        refine VC.cond rfl (fun hc14 => ?_) (fun hc14 => ?_)
        · -- TTFT
          refine VC.reg ?_
          refine VO.y rfl (.fa rfl tst57 rfl) ?_
          refine VO.store (k := 1) (c' := [Value.int .i64 (15), Value.int .i64 (((k : Nat) : Int))]) 110 rfl rfl (.inr ⟨tk26, rfl⟩) rfl rfl rfl rfl rfl ?_
          refine VO.k12 0 1 2 6 7 8 9 10 11 12 13 36 ?_
          refine outN ?_
          refine VC.seq ?_
          refine VC.rs ?_
          refine VO.y rfl (.ldA 110 rfl tk57 rfl (cellsAt_one rfl rfl)) ?_
          refine VO.mv ?_
          refine VO.y rfl (.bst (cs := [Value.int .i64 (0), Value.int .i64 (((k : Nat) : Int))]) rfl tst57 tz57 rfl) ?_
          refine VO.y rfl (.stneq (p := 15 = 0 ∧ ((k : Nat) : Int) = ((k : Nat) : Int)) rfl rfl (teq57 15 ((k : Nat) : Int)) (teq57 0 ((k : Nat) : Int)) (by simp [ceq, ba_toList])) ?_
          refine VO.k13 0 1 2 6 7 8 9 10 11 12 13 36 41 ?_
          refine VC.cond rfl (fun hc15 => ?_) (fun hc15 => ?_)
          · -- TTFTT
            refine VC.rs ?_
            refine VO.y rfl (.ldA 110 rfl tk57 rfl (cellsAt_one rfl rfl)) ?_
            refine VO.store (k := 2) (c' := [Value.int .i64 (15), Value.int .i64 (((k : Nat) : Int))]) 102 rfl rfl (.inl tk57) rfl rfl rfl rfl rfl ?_
            refine VO.keep [110, 106, 102, 0] [(110, mone g9 (.cells [Value.int .i64 (15), Value.int .i64 (((k : Nat) : Int))].toArray 57 (0, 0))), (106, mone g5 (.cells [Value.int .i64 (x4.1), Value.int .i64 (x4.2.1), Value.slice q4_A2 (x4.2.2.length) (q4_c2)].toArray 52 (0, 0))), (102, mone g1 (.cells [Value.int .i64 (15), Value.int .i64 (((k : Nat) : Int))].toArray 57 (0, 0))), (0, wm W)] (by kernel_rfl) ?_
            refine VO.k13 0 1 2 6 7 8 9 10 11 12 13 36 41 ?_
            refine VC.ret ?_
            refine outR ?_
            refine outBR ?_
            refine outR ?_
            refine outR ?_
            refine outBR ?_
            refine outR ?_
            refine ⟨_, _, res_run (rs := [.cell 6 57]) rfl (.agg 102 rfl tk57 rfl ⟨_, _, _, mone_self _ _, Nat.le_of_ble_eq_true rfl, rfl⟩ .nil), fun W_ hI => out_of (l := []) hI [] rfl rfl (mle_refl _) (fun hS_ => ?_)⟩
            dsimp only [packV]
            have he0 : (cFollows d0 d1 d2 : Ty.Den TFault) = (15, ((k : Nat) : Int)) := by first | rfl | (first | (rw [hf, List.drop_of_length_le (by omega)]; rfl) | (rw [hf, follows_bad ‹d2[k]? = some _› (by first | assumption | omega)]) | (rw [hf, follows_order ‹d2[k]? = some _› (by assumption) (by omega)]) | (exfalso; omega))
            refine ⟨[Value.int .i64 (15), Value.int .i64 (((k : Nat) : Int))], ?_, ?_⟩
            rotate_left
            · rw [he0]; exact (Ow.of (m := mnil) rfl (mk_Fault (m := _) 15 ((k : Nat) : Int) (by simp only [inK]; (first | omega | (simp only [List.length_append, List.length_nil, List.length_cons, List.length_take, List.length_drop] at *; omega) | (have := cCheck_ok ‹cCheck _ = 0›; omega))) (by simp only [inK]; (first | omega | (simp only [List.length_append, List.length_nil, List.length_cons, List.length_take, List.length_drop] at *; omega) | (have := cCheck_ok ‹cCheck _ = 0›; omega)))))
            all_goals (first | rfl | (rfl))
          · -- TTFTF
            refine VC.skip ?_
            refine outN ?_
            refine VC.regD _ 5 [(0, true), (1, true), (2, true), (3, true), (4, true)] follows (by kernel_rfl) (fun _ h => h.sub [110, 106, 102, 0]) ?_
            refine VD.y rfl rfl (.inl rfl) (.fa rfl tst52 rfl) ?_
            refine VD.y rfl rfl (.inl rfl) (.ld1 106 rfl tk3 rfl (cellsAt_one rfl rfl)) ?_
            refine VD.y rfl rfl (.inl rfl) (.fa rfl tst52 rfl) ?_
            refine VD.y rfl rfl (.inl rfl) (.ld1 106 rfl tk3 rfl (cellsAt_one rfl rfl)) ?_
            refine VD.y rfl rfl (.inl rfl) (.as rfl) ?_
            refine VD.nil rfl ?_ rfl
            refine VO.as ?_
            refine VO.keep [110, 106, 102, 0] [(110, mone g9 (.cells [Value.int .i64 (15), Value.int .i64 (((k : Nat) : Int))].toArray 57 (0, 0))), (106, mone g5 (.cells [Value.int .i64 (x4.1), Value.int .i64 (x4.2.1), Value.slice q4_A2 (x4.2.2.length) (q4_c2)].toArray 52 (0, 0))), (102, mone g1 (.cells [Value.int .i64 (0), Value.int .i64 (0)].toArray 57 (0, 0))), (0, wm W)] (by kernel_rfl) ?_
            refine VO.k13 0 1 2 6 7 8 9 10 11 12 13 36 41 ?_
            refine outBN ?_
            refine outN ?_
            refine VC.reg ?_
            refine VO.y rfl (.add (c := ((k + 1 : Nat) : Int)) rfl rfl (by omega) ⟨by first | omega | (simp only [List.length_append, List.length_nil, List.length_cons, List.length_take, List.length_drop] at *; omega) | (have := cCheck_ok ‹cCheck _ = 0›; omega), by first | omega | (simp only [List.length_append, List.length_nil, List.length_cons, List.length_take, List.length_drop] at *; omega) | (have := cCheck_ok ‹cCheck _ = 0›; omega)⟩) ?_
            refine VO.mv ?_
            refine VO.k13 0 1 2 6 7 8 9 10 11 12 13 36 41 ?_
            exact outN ⟨⟨k + 1, x4.1, x4.2.1⟩, ⟨by omega, by first | (exfalso; omega) | (rw [hf, follows_step ‹d2[k]? = some _› (by first | assumption | omega) (by omega) (by omega)]; rfl)⟩, by first | omega | (simp only [List.length_append, List.length_nil, List.length_cons, List.length_take, List.length_drop] at *; omega) | (have := cCheck_ok ‹cCheck _ = 0›; omega), ⟨⟨rfl, rfl, rfl, rfl, rfl, rfl, rfl, trivial⟩, fun _ h => Inv.sub h [102, 0]⟩⟩
        · -- TTFF
          refine VC.skip ?_
          refine outN ?_
          refine VC.seq ?_
          refine VC.rs ?_
          refine VO.y rfl (.ldA 110 rfl tk57 rfl (cellsAt_one rfl rfl)) ?_
          refine VO.mv ?_
          refine VO.y rfl (.bst (cs := [Value.int .i64 (0), Value.int .i64 (((k : Nat) : Int))]) rfl tst57 tz57 rfl) ?_
          refine VO.y rfl (.stneq (p := (cCheck x4) = 0 ∧ ((k : Nat) : Int) = ((k : Nat) : Int)) rfl rfl (teq57 (cCheck x4) ((k : Nat) : Int)) (teq57 0 ((k : Nat) : Int)) (by simp [ceq, ba_toList])) ?_
          refine VO.k13 0 1 2 6 7 8 9 10 11 12 13 36 41 ?_
          refine VC.cond rfl (fun hc16 => ?_) (fun hc16 => ?_)
          · -- TTFFT
            refine VC.rs ?_
            refine VO.y rfl (.ldA 110 rfl tk57 rfl (cellsAt_one rfl rfl)) ?_
            refine VO.store (k := 2) (c' := [Value.int .i64 (cCheck x4), Value.int .i64 (((k : Nat) : Int))]) 102 rfl rfl (.inl tk57) rfl rfl rfl rfl rfl ?_
            refine VO.k13 0 1 2 6 7 8 9 10 11 12 13 36 41 ?_
            refine VC.ret ?_
            refine outR ?_
            refine outBR ?_
            refine outR ?_
            refine outR ?_
            refine outBR ?_
            refine outR ?_
            refine ⟨_, _, res_run (rs := [.cell 6 57]) rfl (.agg 102 rfl tk57 rfl ⟨_, _, _, mone_self _ _, Nat.le_of_ble_eq_true rfl, rfl⟩ .nil), fun W_ hI => out_of (l := []) hI [] rfl rfl (mle_refl _) (fun hS_ => ?_)⟩
            dsimp only [packV]
            have he0 : (cFollows d0 d1 d2 : Ty.Den TFault) = (cCheck x4, ((k : Nat) : Int)) := by first | rfl | (first | (rw [hf, List.drop_of_length_le (by omega)]; rfl) | (rw [hf, follows_bad ‹d2[k]? = some _› (by first | assumption | omega)]) | (rw [hf, follows_order ‹d2[k]? = some _› (by assumption) (by omega)]) | (exfalso; omega))
            refine ⟨[Value.int .i64 (cCheck x4), Value.int .i64 (((k : Nat) : Int))], ?_, ?_⟩
            rotate_left
            · rw [he0]; exact (Ow.of (m := mnil) rfl (mk_Fault (m := _) (cCheck x4) ((k : Nat) : Int) (by simp only [inK]; (first | omega | (simp only [List.length_append, List.length_nil, List.length_cons, List.length_take, List.length_drop] at *; omega) | (have := cCheck_ok ‹cCheck _ = 0›; omega))) (by simp only [inK]; (first | omega | (simp only [List.length_append, List.length_nil, List.length_cons, List.length_take, List.length_drop] at *; omega) | (have := cCheck_ok ‹cCheck _ = 0›; omega)))))
            all_goals (first | rfl | (rfl))
          · -- TTFFF
            refine VC.skip ?_
            refine outN ?_
            refine VC.regD _ 5 [(0, true), (1, true), (2, true), (3, true), (4, true)] follows (by kernel_rfl) (fun _ h => h.sub [110, 106, 102, 0]) ?_
            refine VD.y rfl rfl (.inl rfl) (.fa rfl tst52 rfl) ?_
            refine VD.y rfl rfl (.inl rfl) (.ld1 106 rfl tk3 rfl (cellsAt_one rfl rfl)) ?_
            refine VD.y rfl rfl (.inl rfl) (.fa rfl tst52 rfl) ?_
            refine VD.y rfl rfl (.inl rfl) (.ld1 106 rfl tk3 rfl (cellsAt_one rfl rfl)) ?_
            refine VD.y rfl rfl (.inl rfl) (.as rfl) ?_
            refine VD.nil rfl ?_ rfl
            refine VO.as ?_
            refine VO.k13 0 1 2 6 7 8 9 10 11 12 13 36 41 ?_
            refine outBN ?_
            refine outN ?_
            refine VC.reg ?_
            refine VO.y rfl (.add (c := ((k + 1 : Nat) : Int)) rfl rfl (by omega) ⟨by first | omega | (simp only [List.length_append, List.length_nil, List.length_cons, List.length_take, List.length_drop] at *; omega) | (have := cCheck_ok ‹cCheck _ = 0›; omega), by first | omega | (simp only [List.length_append, List.length_nil, List.length_cons, List.length_take, List.length_drop] at *; omega) | (have := cCheck_ok ‹cCheck _ = 0›; omega)⟩) ?_
            refine VO.mv ?_
            refine VO.keep [110, 106, 102, 0] [(110, mone g9 (.cells [Value.int .i64 (cCheck x4), Value.int .i64 (((k : Nat) : Int))].toArray 57 (0, 0))), (106, mone g5 (.cells [Value.int .i64 (x4.1), Value.int .i64 (x4.2.1), Value.slice q4_A2 (x4.2.2.length) (q4_c2)].toArray 52 (0, 0))), (102, mone g1 (.cells [Value.int .i64 (0), Value.int .i64 (0)].toArray 57 (0, 0))), (0, wm W)] (by kernel_rfl) ?_
            refine VO.k13 0 1 2 6 7 8 9 10 11 12 13 36 41 ?_
            exact outN ⟨⟨k + 1, x4.1, x4.2.1⟩, ⟨by omega, by first | (exfalso; omega) | (rw [hf, follows_step ‹d2[k]? = some _› (by first | assumption | omega) (by omega) (by omega)]; rfl)⟩, by first | omega | (simp only [List.length_append, List.length_nil, List.length_cons, List.length_take, List.length_drop] at *; omega) | (have := cCheck_ok ‹cCheck _ = 0›; omega), ⟨⟨rfl, rfl, rfl, rfl, rfl, rfl, rfl, trivial⟩, fun _ h => Inv.sub h [102, 0]⟩⟩
    · -- TF
      refine VO.gN ?_
      refine VO.gN ?_
      refine VO.gN ?_
      refine VO.gN ?_
      refine VO.gN ?_
      refine VO.gN ?_
      refine VO.gn rfl (.inr ⟨_, rfl, rfl⟩) ?_
      refine VO.gn rfl (.inr ⟨_, rfl, rfl⟩) ?_
      refine VO.gn rfl (.inr ⟨_, rfl, rfl⟩) ?_
      refine VO.gn rfl (.inr ⟨_, rfl, rfl⟩) ?_
      refine VO.gN ?_
      refine VO.y rfl (.pF rfl rfl) ?_
      refine VO.keep [110, 106, 102, 0] [(110, mone g9 (.cells [Value.int .i64 (cCheck x4), Value.int .i64 (((k : Nat) : Int))].toArray 57 (0, 0))), (106, mone g5 (.cells [Value.int .i64 (x4.1), Value.int .i64 (x4.2.1), Value.slice q4_A2 (x4.2.2.length) (q4_c2)].toArray 52 (0, 0))), (102, mone g1 (.cells [Value.int .i64 (0), Value.int .i64 (0)].toArray 57 (0, 0))), (0, wm W)] (by kernel_rfl) ?_
      refine VO.k12 0 1 2 6 7 8 9 10 11 12 13 36 ?_
      refine VC.condF rfl ?_
      refine VC.skip ?_
      refine outN ?_
      refine VC.seq ?_
      refine VC.rs ?_
      refine VO.y rfl (.ldA 110 rfl tk57 rfl (cellsAt_one rfl rfl)) ?_
      refine VO.mv ?_
      refine VO.y rfl (.bst (cs := [Value.int .i64 (0), Value.int .i64 (((k : Nat) : Int))]) rfl tst57 tz57 rfl) ?_
      refine VO.y rfl (.stneq (p := (cCheck x4) = 0 ∧ ((k : Nat) : Int) = ((k : Nat) : Int)) rfl rfl (teq57 (cCheck x4) ((k : Nat) : Int)) (teq57 0 ((k : Nat) : Int)) (by simp [ceq, ba_toList])) ?_
      refine VO.k13 0 1 2 6 7 8 9 10 11 12 13 36 41 ?_
      refine VC.cond rfl (fun hc17 => ?_) (fun hc17 => ?_)
      · -- TFT
        refine VC.rs ?_
        refine VO.y rfl (.ldA 110 rfl tk57 rfl (cellsAt_one rfl rfl)) ?_
        refine VO.store (k := 2) (c' := [Value.int .i64 (cCheck x4), Value.int .i64 (((k : Nat) : Int))]) 102 rfl rfl (.inl tk57) rfl rfl rfl rfl rfl ?_
        refine VO.k13 0 1 2 6 7 8 9 10 11 12 13 36 41 ?_
        refine VC.ret ?_
        refine outR ?_
        refine outBR ?_
        refine outR ?_
        refine outR ?_
        refine outBR ?_
        refine outR ?_
        refine ⟨_, _, res_run (rs := [.cell 6 57]) rfl (.agg 102 rfl tk57 rfl ⟨_, _, _, mone_self _ _, Nat.le_of_ble_eq_true rfl, rfl⟩ .nil), fun W_ hI => out_of (l := []) hI [] rfl rfl (mle_refl _) (fun hS_ => ?_)⟩
        dsimp only [packV]
        have he0 : (cFollows d0 d1 d2 : Ty.Den TFault) = (cCheck x4, ((k : Nat) : Int)) := by first | rfl | (first | (rw [hf, List.drop_of_length_le (by omega)]; rfl) | (rw [hf, follows_bad ‹d2[k]? = some _› (by first | assumption | omega)]) | (rw [hf, follows_order ‹d2[k]? = some _› (by assumption) (by omega)]) | (exfalso; omega))
        refine ⟨[Value.int .i64 (cCheck x4), Value.int .i64 (((k : Nat) : Int))], ?_, ?_⟩
        rotate_left
        · rw [he0]; exact (Ow.of (m := mnil) rfl (mk_Fault (m := _) (cCheck x4) ((k : Nat) : Int) (by simp only [inK]; (first | omega | (simp only [List.length_append, List.length_nil, List.length_cons, List.length_take, List.length_drop] at *; omega) | (have := cCheck_ok ‹cCheck _ = 0›; omega))) (by simp only [inK]; (first | omega | (simp only [List.length_append, List.length_nil, List.length_cons, List.length_take, List.length_drop] at *; omega) | (have := cCheck_ok ‹cCheck _ = 0›; omega)))))
        all_goals (first | rfl | (rfl))
      · -- TFF
        refine VC.skip ?_
        refine outN ?_
        refine VC.regD _ 5 [(0, true), (1, true), (2, true), (3, true), (4, true)] follows (by kernel_rfl) (fun _ h => h.sub [110, 106, 102, 0]) ?_
        refine VD.y rfl rfl (.inl rfl) (.fa rfl tst52 rfl) ?_
        refine VD.y rfl rfl (.inl rfl) (.ld1 106 rfl tk3 rfl (cellsAt_one rfl rfl)) ?_
        refine VD.y rfl rfl (.inl rfl) (.fa rfl tst52 rfl) ?_
        refine VD.y rfl rfl (.inl rfl) (.ld1 106 rfl tk3 rfl (cellsAt_one rfl rfl)) ?_
        refine VD.y rfl rfl (.inl rfl) (.as rfl) ?_
        refine VD.nil rfl ?_ rfl
        refine VO.as ?_
        refine VO.k13 0 1 2 6 7 8 9 10 11 12 13 36 41 ?_
        refine outBN ?_
        refine outN ?_
        refine VC.reg ?_
        refine VO.y rfl (.add (c := ((k + 1 : Nat) : Int)) rfl rfl (by omega) ⟨by first | omega | (simp only [List.length_append, List.length_nil, List.length_cons, List.length_take, List.length_drop] at *; omega) | (have := cCheck_ok ‹cCheck _ = 0›; omega), by first | omega | (simp only [List.length_append, List.length_nil, List.length_cons, List.length_take, List.length_drop] at *; omega) | (have := cCheck_ok ‹cCheck _ = 0›; omega)⟩) ?_
        refine VO.mv ?_
        refine VO.keep [110, 106, 102, 0] [(110, mone g9 (.cells [Value.int .i64 (cCheck x4), Value.int .i64 (((k : Nat) : Int))].toArray 57 (0, 0))), (106, mone g5 (.cells [Value.int .i64 (x4.1), Value.int .i64 (x4.2.1), Value.slice q4_A2 (x4.2.2.length) (q4_c2)].toArray 52 (0, 0))), (102, mone g1 (.cells [Value.int .i64 (0), Value.int .i64 (0)].toArray 57 (0, 0))), (0, wm W)] (by kernel_rfl) ?_
        refine VO.k13 0 1 2 6 7 8 9 10 11 12 13 36 41 ?_
        exact outN ⟨⟨k + 1, x4.1, x4.2.1⟩, ⟨by omega, by first | (exfalso; omega) | (rw [hf, follows_step ‹d2[k]? = some _› (by first | assumption | omega) (by omega) (by omega)]; rfl)⟩, by first | omega | (simp only [List.length_append, List.length_nil, List.length_cons, List.length_take, List.length_drop] at *; omega) | (have := cCheck_ok ‹cCheck _ = 0›; omega), ⟨⟨rfl, rfl, rfl, rfl, rfl, rfl, rfl, trivial⟩, fun _ h => Inv.sub h [102, 0]⟩⟩
  · -- F
    refine VC.exit ?_
    refine outE ?_
    refine outE ?_
    refine outBB ?_
    refine outN ?_
    refine VC.rs ?_
    refine VO.y rfl (.bst (cs := [Value.int .i64 (0), Value.int .i64 (0)]) rfl tst57 tz57 rfl) ?_
    refine VO.store (k := 2) (c' := [Value.int .i64 (0), Value.int .i64 (0)]) 102 rfl rfl (.inl tk57) rfl rfl rfl rfl rfl ?_
    refine VO.k8 0 1 2 6 10 11 12 13 ?_
    refine VC.ret ?_
    refine ⟨_, _, res_run (rs := [.cell 6 57]) rfl (.agg 102 rfl tk57 rfl ⟨_, _, _, mone_self _ _, Nat.le_of_ble_eq_true rfl, rfl⟩ .nil), fun W_ hI => out_of (l := []) hI [] rfl rfl (mle_refl _) (fun hS_ => ?_)⟩
    dsimp only [packV]
    have he0 : (cFollows d0 d1 d2 : Ty.Den TFault) = (0, 0) := by first | rfl | (first | (rw [hf, List.drop_of_length_le (by omega)]; rfl) | (rw [hf, follows_bad ‹d2[k]? = some _› (by first | assumption | omega)]) | (rw [hf, follows_order ‹d2[k]? = some _› (by assumption) (by omega)]) | (exfalso; omega))
    refine ⟨[Value.int .i64 (0), Value.int .i64 (0)], ?_, ?_⟩
    rotate_left
    · rw [he0]; exact (Ow.of (m := mnil) rfl (mk_Fault (m := _) 0 0 (by simp only [inK]; (first | omega | (simp only [List.length_append, List.length_nil, List.length_cons, List.length_take, List.length_drop] at *; omega) | (have := cCheck_ok ‹cCheck _ = 0›; omega))) (by simp only [inK]; (first | omega | (simp only [List.length_append, List.length_nil, List.length_cons, List.length_take, List.length_drop] at *; omega) | (have := cCheck_ok ‹cCheck _ = 0›; omega)))))
    all_goals (first | rfl | (rfl))
theorem wrong_ok (W : World) (d0 : Int) (h0 : inK .i64 d0) {v1 : Value} {d1 : List DCommit} (h1 : Rd (.sl TCommit) (wm W) [v1] d1) : CallR Try.prog 112 [.int .i64 d0, v1] W (mnil) (fun v m' => v = .int .i64 (shipWrong d0 d1)) := by
  have h0' := h0; simp only [inK] at h0'
  obtain ⟨A1, c1, rfl, l1, k1⟩ := h1.slice
  simp only [maxLen] at k1
  refine CallR.ofA (n := 34) Try.func112 rfl rfl rfl ?_
  refine VC.rs ?_
  refine VO.as ?_
  refine VO.k3 0 1 4 ?_
  refine VC.seq ?_
  refine VC.rs ?_
  refine VO.mv ?_
  refine VO.y rfl (.lss rfl rfl) ?_
  refine VO.mv ?_
  refine VO.dec (t := 9) rfl (fun hc1 => ?_) (fun hc1 => ?_)
  · -- T
    refine VO.gN ?_
    refine VO.gN ?_
    refine VO.y rfl (.pT rfl rfl) ?_
    refine VO.k4 0 1 4 12 ?_
    refine VC.condT rfl ?_
    refine VC.rs ?_
    refine VO.as ?_
    refine VO.keep [0] [(0, wm W)] (by kernel_rfl) ?_
    refine VO.k4 0 1 4 12 ?_
    refine VC.ret ?_
    refine outR ?_
    refine ⟨_, _, res_run (rs := [.tmp 4]) rfl (.tmp rfl .nil), fun W_ hI => out_of (l := []) hI [] rfl rfl (mle_refl _) (fun hS_ => ?_)⟩
    dsimp only [packV]
    all_goals (first | rfl | (congr 1; first | exact (wrong_arg (by omega)).symm | exact (wrong_follows (by omega) (by omega) ‹_›).symm | exact (wrong_order (by omega) (by omega) ‹¬ ¬ _› ‹d1[_]? = some _› (by omega) (by omega)).symm | exact (wrong_good (by omega) (by omega) ‹¬ ¬ _› ‹d1[_]? = some _› (by omega) (by omega)).symm | exact (wrong_none (by omega) (by omega) ‹¬ ¬ _› (by omega)).symm))
  · -- F
    refine VO.gy rfl ⟨_, rfl, rfl⟩ (.mv rfl) ?_
    refine VO.gy rfl ⟨_, rfl, rfl⟩ (.gtr rfl rfl) ?_
    refine VO.y rfl (.pF rfl rfl) ?_
    refine VO.k4 0 1 4 12 ?_
    refine VC.cond rfl (fun hc2 => ?_) (fun hc2 => ?_)
    · -- FT
      refine VC.rs ?_
      refine VO.as ?_
      refine VO.keep [0] [(0, wm W)] (by kernel_rfl) ?_
      refine VO.k4 0 1 4 12 ?_
      refine VC.ret ?_
      refine outR ?_
      refine ⟨_, _, res_run (rs := [.tmp 4]) rfl (.tmp rfl .nil), fun W_ hI => out_of (l := []) hI [] rfl rfl (mle_refl _) (fun hS_ => ?_)⟩
      dsimp only [packV]
      all_goals (first | rfl | (congr 1; first | exact (wrong_arg (by omega)).symm | exact (wrong_follows (by omega) (by omega) ‹_›).symm | exact (wrong_order (by omega) (by omega) ‹¬ ¬ _› ‹d1[_]? = some _› (by omega) (by omega)).symm | exact (wrong_good (by omega) (by omega) ‹¬ ¬ _› ‹d1[_]? = some _› (by omega) (by omega)).symm | exact (wrong_none (by omega) (by omega) ‹¬ ¬ _› (by omega)).symm))
    · -- FF
      refine VC.skip ?_
      refine outN ?_
      refine VC.seq ?_
      refine VC.rs ?_
      refine VO.mv ?_
      refine VO.callN 103 rfl fnOk52 rfl (fun W hW => follows_ok W 0 bdk 0 bdk (Rd.mono h1 (hW.at (i := 0) rfl))) (fun v3 m3 hv3 => ?_)
      obtain ⟨s3_0, rfl, f3_0⟩ := hv3
      obtain ⟨rfl, q3_0_0, q3_0_1⟩ := open_Fault (x0 := (cFollows 0 0 d1).1) (x1 := (cFollows 0 0 d1).2) (f3_0.rd (mle_refl _))
      simp only [inK] at q3_0_0
      simp only [inK] at q3_0_1
      refine VO.alloc 105 rfl tz57 (fun g4 => ?_)
      refine VO.store (k := 2) (c' := [Value.int .i64 ((cFollows 0 0 d1).1), Value.int .i64 ((cFollows 0 0 d1).2)]) 105 rfl rfl (.inl tk57) rfl rfl rfl rfl rfl ?_
      refine VO.keep [105, 0] [(105, mone g4 (.cells [Value.int .i64 ((cFollows 0 0 d1).1), Value.int .i64 ((cFollows 0 0 d1).2)].toArray 57 (0, 0))), (0, wm W)] (by kernel_rfl) ?_
      refine VO.k5 0 1 4 5 12 ?_
      refine VC.rs ?_
      refine VO.y rfl (.fa rfl tst57 rfl) ?_
      refine VO.y rfl (.ld1 105 rfl tk26 rfl (cellsAt_one rfl rfl)) ?_
      refine VO.y rfl (.neq rfl rfl) ?_
      refine VO.k6 0 1 4 5 12 17 ?_
      refine VC.cond rfl (fun hc6 => ?_) (fun hc6 => ?_)
      · -- FFT
        refine VC.rs ?_
        refine VO.y rfl (.fa rfl tst57 rfl) ?_
        refine VO.y rfl (.ld1 105 rfl tk26 rfl (cellsAt_one rfl rfl)) ?_
        refine VO.as ?_
        refine VO.k6 0 1 4 5 12 17 ?_
        refine VC.ret ?_
        refine outR ?_
        refine ⟨_, _, res_run (rs := [.tmp 4]) rfl (.tmp rfl .nil), fun W_ hI => out_of (l := []) hI [] rfl rfl (mle_refl _) (fun hS_ => ?_)⟩
        dsimp only [packV]
        all_goals (first | rfl | (congr 1; first | exact (wrong_arg (by omega)).symm | exact (wrong_follows (by omega) (by omega) ‹_›).symm | exact (wrong_order (by omega) (by omega) ‹¬ ¬ _› ‹d1[_]? = some _› (by omega) (by omega)).symm | exact (wrong_good (by omega) (by omega) ‹¬ ¬ _› ‹d1[_]? = some _› (by omega) (by omega)).symm | exact (wrong_none (by omega) (by omega) ‹¬ ¬ _› (by omega)).symm))
      · -- FFF
        refine VC.skip ?_
        refine outN ?_
        refine VC.seq ?_
        refine VC.rs ?_
        refine VO.mv ?_
        refine VO.y rfl (.lenS rfl tsl61) ?_
        refine VO.as ?_
        refine VO.k7 0 1 4 5 6 12 17 ?_
        refine VC.rs ?_
        refine VO.mv ?_
        refine VO.y rfl (.gtr rfl rfl) ?_
        refine VO.mv ?_
        refine VO.dec (t := 24) rfl (fun hc7 => ?_) (fun hc7 => ?_)
        · -- FFFT
          refine VO.gy rfl ⟨_, rfl, rfl⟩ (.mv rfl) ?_
          refine VO.gy rfl ⟨_, rfl, rfl⟩ (.mv rfl) ?_
          refine VO.gy rfl ⟨_, rfl, rfl⟩ (.sub rfl rfl rfl ⟨bd, bd⟩) ?_
          obtain ⟨x8, hx8⟩ : ∃ z_, (d1)[(((d1.length : Nat) : Int) - 1).toNat]? = some z_ := ⟨_, List.getElem?_eq_getElem bd⟩
          obtain ⟨gg8, oo8, ec8, ea8, hce8, hre8⟩ := h1.elem hx8
          cases ea8
          obtain ⟨q8_A2, q8_c2, rfl, q8_0, q8_1, q8_2⟩ := open_Commit (x0 := x8.1) (x1 := x8.2.1) (x2 := x8.2.2) hre8
          simp only [inK] at q8_0
          simp only [inK] at q8_1
          have q8_r2 := Rd.room q8_2
          refine VO.gy rfl ⟨_, rfl, rfl⟩ (.ixI ((((d1.length : Nat) : Int) - 1).toNat) rfl rfl tsl61 bd bd) ?_
          refine VO.gy rfl ⟨_, rfl, rfl⟩ (.fa rfl tst52 rfl) ?_
          refine VO.gy rfl ⟨_, rfl, rfl⟩ (.ld1 0 rfl tk3 rfl (hce8.at1 (j := 0) rfl)) ?_
          refine VO.gy rfl ⟨_, rfl, rfl⟩ (.mv rfl) ?_
          refine VO.gy rfl ⟨_, rfl, rfl⟩ (.gtr rfl rfl) ?_
          refine VO.y rfl (.pT rfl rfl) ?_
          refine VO.keep [105, 0] [(105, mone g4 (.cells [Value.int .i64 ((cFollows 0 0 d1).1), Value.int .i64 ((cFollows 0 0 d1).2)].toArray 57 (0, 0))), (0, wm W)] (by kernel_rfl) ?_
          refine VO.k8 0 1 4 5 6 12 17 33 ?_
          refine VC.cond rfl (fun hc9 => ?_) (fun hc9 => ?_)
          · -- FFFTT
            refine VC.rs ?_
            refine VO.as ?_
            refine VO.k8 0 1 4 5 6 12 17 33 ?_
            refine VC.ret ?_
            refine outR ?_
            refine ⟨_, _, res_run (rs := [.tmp 4]) rfl (.tmp rfl .nil), fun W_ hI => out_of (l := []) hI [] rfl rfl (mle_refl _) (fun hS_ => ?_)⟩
            dsimp only [packV]
            all_goals (first | rfl | (congr 1; first | exact (wrong_arg (by omega)).symm | exact (wrong_follows (by omega) (by omega) ‹_›).symm | exact (wrong_order (by omega) (by omega) ‹¬ ¬ _› ‹d1[_]? = some _› (by omega) (by omega)).symm | exact (wrong_good (by omega) (by omega) ‹¬ ¬ _› ‹d1[_]? = some _› (by omega) (by omega)).symm | exact (wrong_none (by omega) (by omega) ‹¬ ¬ _› (by omega)).symm))
          · -- FFFTF
            refine VC.skip ?_
            refine outN ?_
            refine VC.rs ?_
            refine VO.as ?_
            refine VO.k8 0 1 4 5 6 12 17 33 ?_
            refine VC.ret ?_
            refine ⟨_, _, res_run (rs := [.tmp 4]) rfl (.tmp rfl .nil), fun W_ hI => out_of (l := []) hI [] rfl rfl (mle_refl _) (fun hS_ => ?_)⟩
            dsimp only [packV]
            all_goals (first | rfl | (congr 1; first | exact (wrong_arg (by omega)).symm | exact (wrong_follows (by omega) (by omega) ‹_›).symm | exact (wrong_order (by omega) (by omega) ‹¬ ¬ _› ‹d1[_]? = some _› (by omega) (by omega)).symm | exact (wrong_good (by omega) (by omega) ‹¬ ¬ _› ‹d1[_]? = some _› (by omega) (by omega)).symm | exact (wrong_none (by omega) (by omega) ‹¬ ¬ _› (by omega)).symm))
        · -- FFFF
          refine VO.gN ?_
          refine VO.gN ?_
          refine VO.gN ?_
          refine VO.gN ?_
          refine VO.gN ?_
          refine VO.gN ?_
          refine VO.gN ?_
          refine VO.gN ?_
          refine VO.y rfl (.pF rfl rfl) ?_
          refine VO.keep [105, 0] [(105, mone g4 (.cells [Value.int .i64 ((cFollows 0 0 d1).1), Value.int .i64 ((cFollows 0 0 d1).2)].toArray 57 (0, 0))), (0, wm W)] (by kernel_rfl) ?_
          refine VO.k8 0 1 4 5 6 12 17 33 ?_
          refine VC.condF rfl ?_
          refine VC.skip ?_
          refine outN ?_
          refine VC.rs ?_
          refine VO.as ?_
          refine VO.k8 0 1 4 5 6 12 17 33 ?_
          refine VC.ret ?_
          refine ⟨_, _, res_run (rs := [.tmp 4]) rfl (.tmp rfl .nil), fun W_ hI => out_of (l := []) hI [] rfl rfl (mle_refl _) (fun hS_ => ?_)⟩
          dsimp only [packV]
          all_goals (first | rfl | (congr 1; first | exact (wrong_arg (by omega)).symm | exact (wrong_follows (by omega) (by omega) ‹_›).symm | exact (wrong_order (by omega) (by omega) ‹¬ ¬ _› ‹d1[_]? = some _› (by omega) (by omega)).symm | exact (wrong_good (by omega) (by omega) ‹¬ ¬ _› ‹d1[_]? = some _› (by omega) (by omega)).symm | exact (wrong_none (by omega) (by omega) ‹¬ ¬ _› (by omega)).symm))
theorem clone_ok (W : World) {v0 : Value} {d0 : List DOp} (h0 : Rd (.sl TOp) (wm W) [v0] d0) (e0 : d0.length ≤ 3518437208800) : CallR Try.prog 111 [v0] W (mnil) (fun v m' => ∃ (s0 : Value), v = s0 ∧ Ow (.sl TOp) m' [s0] (d0)) := by
  obtain ⟨A0, c0, rfl, l0, k0⟩ := h0.slice
  simp only [maxLen] at k0
  refine CallR.ofA (n := 8) Try.func111 rfl rfl rfl ?_
  refine VC.rs ?_
  refine VO.as ?_
  refine VO.k2 0 2 ?_
  refine VC.seq ?_
  refine VC.rs ?_
  refine VO.mv ?_
  refine VO.y rfl (.snil rfl rfl Try.underlying22) ?_
  refine VO.k3 0 2 4 ?_
  refine VC.cond rfl (fun hc1 => ?_) (fun hc1 => ?_)
  · -- T
    refine VC.rs ?_
    refine VO.as ?_
    refine VO.keep [0] [(0, wm W)] (by kernel_rfl) ?_
    refine VO.k3 0 2 4 ?_
    refine VC.ret ?_
    refine outR ?_
    refine ⟨_, _, res_run (rs := [.tmp 2]) rfl (.tmp rfl .nil), fun W_ hI => out_of (l := []) hI [] rfl rfl (mle_refl _) (fun hS_ => ?_)⟩
    dsimp only [packV]
    have he0 : (d0 : Ty.Den (.sl TOp)) = [] := by first | rfl | (exact clone_nil h0 ‹_ = none›)
    refine ⟨Value.slice none (0) (0), ?_, ?_⟩
    rotate_left
    · rw [he0]; exact (Ow.nil _ _)
    all_goals (first | rfl | (simp [*]; done))
  · -- F
    refine VC.skip ?_
    refine outN ?_
    refine VC.rs ?_
    refine VO.bsl (cs := []) 103 rfl rfl tsl22 tz49 rfl rfl (fun g2 => ?_)
    refine VO.mv ?_
    have ho5 : OwnL TOp (mone g2 (.cells [].toArray 49 (0, 0))) mnil (Value.slice (some ⟨g2, 0, none⟩) (0) (0)) [] := OwnL.lit 0 All2c.nil rfl rfl
    obtain ⟨mo4, cs4, hM4, hA4, hC4⟩ := ho5
    obtain ⟨all4, hS4, hR4⟩ := Rd.srcI (P := Try.prog) (h0) Try.underlying22
    refine VO.app 103 rfl rfl rfl tsl22 tz49 rfl rfl hM4 hA4 (hS4 _ 0 rfl) hR4.nice bdm bd (by decide) (fun v4 m4 hN4 => ?_)
    have ho4 : OwnL TOp m4 mnil v4 (d0) := OwnL.more hC4 hN4 (All2c.mono hR4 fun _ _ h => Rd.flat rfl h _)
    obtain ⟨A4, c4, rfl, l4, k4⟩ := ho4.slice
    simp only [maxLen] at k4
    refine VO.as ?_
    refine VO.keep [103, 0] [(103, m4), (0, wm W)] (by kernel_rfl) ?_
    refine VO.k3 0 2 4 ?_
    refine VC.ret ?_
    refine ⟨_, _, res_run (rs := [.tmp 2]) rfl (.tmp rfl .nil), fun W_ hI => out_of (l := [m4]) hI [103] rfl rfl (mle_refl _) (fun hS_ => ?_)⟩
    dsimp only [packV]
    have he0 : (d0 : Ty.Den (.sl TOp)) = d0 := by first | rfl | (exact clone_nil h0 ‹_ = none›)
    refine ⟨Value.slice A4 ((d0).length) (c4), ?_, ?_⟩
    rotate_left
    · rw [he0]; exact (Ow.up (OwnL.ow ho4 rfl) (hS_.1 _ (.head _)))
    all_goals (first | rfl | (simp [*]; done))
theorem cCopy_ok (W : World) {v0 : List Value} {d0 : DCommit} (h0 : Rd TCommit (wm W) v0 d0) (e0 : d0.2.2.length ≤ 3518437208800) : CallR Try.prog 60 [.agg v0.toArray] W (mnil) (fun v m' => ∃ (s0 : List Value), v = .agg s0.toArray ∧ Ow TCommit m' s0 (d0)) := by
  obtain ⟨p0_A2, p0_c2, rfl, p0_0, p0_1, p0_2⟩ := open_Commit (x0 := d0.1) (x1 := d0.2.1) (x2 := d0.2.2) h0
  simp only [inK] at p0_0
  simp only [inK] at p0_1
  have p0_r2 := Rd.room p0_2
  refine CallR.ofA (n := 8) Try.func60 rfl rfl rfl ?_
  refine VC.rs ?_
  refine VO.box (cs := [Value.int .i64 (d0.1), Value.int .i64 (d0.2.1), Value.slice p0_A2 (d0.2.2.length) (p0_c2)]) 102 rfl rfl rfl (fun g1 => ?_)
  refine VO.alloc 104 rfl tz52 (fun g3 => ?_)
  refine VO.k3 0 1 2 ?_
  refine VC.rs ?_
  refine VO.y rfl (.fa rfl tst52 rfl) ?_
  refine VO.y rfl (.ld1 102 rfl tk22 rfl (cellsAt_one rfl rfl)) ?_
  refine VO.callN 105 rfl fnOk111 rfl (fun W hW => clone_ok W (Rd.mono p0_2 (hW.at (i := 0) rfl)) bd) (fun v5 m5 hv5 => ?_)
  obtain ⟨s5_0, rfl, f5_0⟩ := hv5
  obtain ⟨A5_0, c5_0, eq5_0, l5_0, k5_0⟩ := f5_0.slice
  subst eq5_0
  simp only [maxLen] at k5_0
  refine VO.y rfl (.fa rfl tst52 rfl) ?_
  refine VO.store (k := 1) (c' := [Value.int .i64 (d0.1), Value.int .i64 (d0.2.1), Value.slice A5_0 (d0.2.2.length) (c5_0)]) 102 rfl rfl (.inr ⟨tk22, rfl⟩) rfl rfl rfl rfl rfl ?_
  refine VO.k3 0 1 2 ?_
  refine VC.rs ?_
  refine VO.y rfl (.ldA 102 rfl tk52 rfl (cellsAt_one rfl rfl)) ?_
  refine VO.store (k := 3) (c' := [Value.int .i64 (d0.1), Value.int .i64 (d0.2.1), Value.slice A5_0 (d0.2.2.length) (c5_0)]) 104 rfl rfl (.inl tk52) rfl rfl rfl rfl rfl ?_
  refine VO.keep [105, 104, 102, 0] [(105, m5), (104, mone g3 (.cells [Value.int .i64 (d0.1), Value.int .i64 (d0.2.1), Value.slice A5_0 (d0.2.2.length) (c5_0)].toArray 52 (0, 0))), (102, mone g1 (.cells [Value.int .i64 (d0.1), Value.int .i64 (d0.2.1), Value.slice A5_0 (d0.2.2.length) (c5_0)].toArray 52 (0, 0))), (0, wm W)] (by kernel_rfl) ?_
  refine VO.k3 0 1 2 ?_
  refine VC.ret ?_
  refine ⟨_, _, res_run (rs := [.cell 2 52]) rfl (.agg 104 rfl tk52 rfl ⟨_, _, _, mone_self _ _, Nat.le_of_ble_eq_true rfl, rfl⟩ .nil), fun W_ hI => out_of (l := [m5]) hI [105] rfl rfl (mle_refl _) (fun hS_ => ?_)⟩
  dsimp only [packV]
  have he0 : (d0 : Ty.Den TCommit) = d0 := by first | rfl | (simp [*]; done)
  refine ⟨[Value.int .i64 (d0.1), Value.int .i64 (d0.2.1), Value.slice A5_0 (d0.2.2.length) (c5_0)], ?_, ?_⟩
  rotate_left
  · rw [he0]; exact (show Ow TCommit _ _ d0 from (mkO_Commit d0.1 d0.2.1 d0.2.2 hS_ bdk bdk (OwnL.ow (Ow.ownl f5_0 rfl mnil) rfl)))
  all_goals (first | rfl | (simp [*]; done))
theorem grown_ok (W : World) {m0 : Mem} (hm : mle (m0) (wm W)) {v0 : Value} {d0 : List DStart} (h0 : Ow (.sl TStart) m0 [v0] d0) {v1 : List Value} {d1 : DCommit} (h1 : Rd TCommit (mout (wm W) (m0)) v1 d1) (e0 : d0.length ≤ 8796093020000) : CallR Try.prog 133 [v0, .agg v1.toArray] W (m0) (fun v m' => ∃ (s0 : Value), v = s0 ∧ Ow (.sl TStart) m' [s0] (sGrown d0 d1)) := by
  obtain ⟨A0, c0, e0_, l0, k0⟩ := h0.slice
  subst e0_
  simp only [maxLen] at k0
  obtain ⟨p1_A2, p1_c2, rfl, p1_0, p1_1, p1_2⟩ := open_Commit (x0 := d1.1) (x1 := d1.2.1) (x2 := d1.2.2) h1
  simp only [inK] at p1_0
  simp only [inK] at p1_1
  have p1_r2 := Rd.room p1_2
  refine CallR.ofB (n := 30) hm Try.func133 rfl rfl rfl ?_
  refine VC.rs ?_
  refine VO.box (cs := [Value.int .i64 (d1.1), Value.int .i64 (d1.2.1), Value.slice p1_A2 (d1.2.2.length) (p1_c2)]) 102 rfl rfl rfl (fun g1 => ?_)
  refine VO.as ?_
  refine VO.k4 0 1 3 4 ?_
  refine VC.seq ?_
  refine VC.rs ?_
  refine VO.mv ?_
  refine VO.y rfl (.lenS rfl tsl70) ?_
  refine VO.as ?_
  refine VO.k5 0 1 3 4 5 ?_
  refine VC.seq ?_
  refine VC.regD _ 11 [(0, true), (1, true), (2, true), (3, true), (4, true), (5, true), (6, true), (7, true), (8, true), (9, true), (10, true)] follows (by kernel_rfl) (fun _ h => h.sub [102, 0, 1]) ?_
  refine VD.y rfl rfl (.inl rfl) (.mv rfl) ?_
  refine VD.y rfl rfl (.inl rfl) (.gtr rfl rfl) ?_
  refine VD.y rfl rfl (.inl rfl) (.mv rfl) ?_
  refine VD.dec (s := 10) rfl (fun hc3 => ?_) (fun hc3 => ?_)
  · -- T
    refine VD.y rfl rfl (.inr ⟨_, _, rfl, _, rfl, rfl⟩) (.mv rfl) ?_
    refine VD.y rfl rfl (.inr ⟨_, _, rfl, _, rfl, rfl⟩) (.mv rfl) ?_
    refine VD.y rfl rfl (.inr ⟨_, _, rfl, _, rfl, rfl⟩) (.sub rfl rfl rfl ⟨bd, bd⟩) ?_
    obtain ⟨x4, hx4⟩ : ∃ z_, (d0)[(((d0.length : Nat) : Int) - 1).toNat]? = some z_ := ⟨_, List.getElem?_eq_getElem bd⟩
    obtain ⟨gg4, oo4, ec4, ea4, hce4, hre4⟩ := (Ow.ownl h0 rfl mnil).elem hx4
    cases ea4
    obtain ⟨rfl, q4_0, q4_1⟩ := open_Start (x0 := x4.1) (x1 := x4.2) hre4
    simp only [inK] at q4_0
    simp only [inK] at q4_1
    refine VD.y rfl rfl (.inr ⟨_, _, rfl, _, rfl, rfl⟩) (.ixI ((((d0.length : Nat) : Int) - 1).toNat) rfl rfl tsl70 bd bd) ?_
    refine VD.y rfl rfl (.inr ⟨_, _, rfl, _, rfl, rfl⟩) (.fa rfl tst90 rfl) ?_
    refine VD.y rfl rfl (.inr ⟨_, _, rfl, _, rfl, rfl⟩) (.ld1 1 rfl tk3 rfl (hce4.at1 (j := 0) rfl)) ?_
    refine VD.y rfl rfl (.inr ⟨_, _, rfl, _, rfl, rfl⟩) (.fa rfl tst52 rfl) ?_
    refine VD.y rfl rfl (.inr ⟨_, _, rfl, _, rfl, rfl⟩) (.ld1 102 rfl tk3 rfl (cellsAt_one rfl rfl)) ?_
    refine VD.nil rfl ?_ rfl
    refine VO.gy rfl ⟨_, rfl, rfl⟩ (.eql rfl rfl) ?_
    refine VO.y rfl (.pT rfl rfl) ?_
    refine VO.keep [102, 0, 1] [(102, mone g1 (.cells [Value.int .i64 (d1.1), Value.int .i64 (d1.2.1), Value.slice p1_A2 (d1.2.2.length) (p1_c2)].toArray 52 (0, 0))), (0, mout (wm W) (m0)), (1, m0)] (by kernel_rfl) ?_
    refine VO.k6 0 1 3 4 5 20 ?_
    refine outN ?_
    refine VC.cond rfl (fun hc5 => ?_) (fun hc5 => ?_)
    · -- TT
      refine VC.rs ?_
      refine VO.mv ?_
      refine VO.as ?_
      refine VO.k6 0 1 3 4 5 20 ?_
      refine VC.ret ?_
      refine outR ?_
      refine ⟨_, _, res_run (rs := [.tmp 4]) rfl (.tmp rfl .nil), fun W_ hI => out_of (l := [m0]) hI [1] rfl rfl (mle_refl _) (fun hS_ => ?_)⟩
      dsimp only [packV]
      have he0 : (sGrown d0 d1 : Ty.Den (.sl TStart)) = d0 := by first | rfl | (first | exact sGrown_same ‹d0[_]? = some _› (by omega) (by omega) | exact sGrown_new (.inr ⟨_, _, ‹d0[_]? = some _›, by omega, by omega⟩) | exact sGrown_new (.inl (List.eq_nil_of_length_eq_zero (by omega))))
      refine ⟨Value.slice (some ⟨gg4, oo4, none⟩) (d0.length) (c0), ?_, ?_⟩
      rotate_left
      · rw [he0]; exact (Ow.up (OwnL.ow (Ow.ownl h0 rfl mnil) rfl) (hS_.1 _ (.head _)))
      all_goals (first | rfl | (simp [*]; done))
    · -- TF
      refine VC.skip ?_
      refine outN ?_
      refine VC.rs ?_
      refine VO.mv ?_
      refine VO.y rfl (.fa rfl tst52 rfl) ?_
      refine VO.y rfl (.ld1 102 rfl tk3 rfl (cellsAt_one rfl rfl)) ?_
      refine VO.y rfl (.fa rfl tst52 rfl) ?_
      refine VO.y rfl (.ld1 102 rfl tk3 rfl (cellsAt_one rfl rfl)) ?_
      refine VO.y rfl (.bst (cs := [Value.int .i64 (d1.1), Value.int .i64 (d1.2.1)]) rfl tst90 tz90 rfl) ?_
      refine VO.bsl (cs := [Value.int .i64 (d1.1), Value.int .i64 (d1.2.1)]) 107 rfl rfl tsl70 tz90 rfl rfl (fun g6 => ?_)
      obtain ⟨mo8, cs8, hM8, hA8, hC8⟩ := (Ow.ownl h0 rfl mnil)
      refine VO.app 1 rfl rfl rfl tsl70 tz90 rfl rfl hM8 hA8 (.row 107 _ _ _ 1 1 _ _ Try.underlying70 rfl (cellsAt_one rfl rfl)) (by simp [Value.oneCell']) bdm bd (by decide) (fun v8 m8 hN8 => ?_)
      have ho8 : OwnL TStart m8 mnil v8 (d0 ++ [(d1.1, d1.2.1)]) := OwnL.one hC8 hN8 (mk_Start (m := _) d1.1 d1.2.1 bdk bdk)
      obtain ⟨A8, c8, rfl, l8, k8⟩ := ho8.slice
      simp only [maxLen] at k8
      refine VO.as ?_
      refine VO.k6 0 1 3 4 5 20 ?_
      refine VC.ret ?_
      refine ⟨_, _, res_run (rs := [.tmp 4]) rfl (.tmp rfl .nil), fun W_ hI => out_of (l := [m8]) hI [1] rfl rfl (mle_refl _) (fun hS_ => ?_)⟩
      dsimp only [packV]
      have he0 : (sGrown d0 d1 : Ty.Den (.sl TStart)) = d0 ++ [(d1.1, d1.2.1)] := by first | rfl | (first | exact sGrown_same ‹d0[_]? = some _› (by omega) (by omega) | exact sGrown_new (.inr ⟨_, _, ‹d0[_]? = some _›, by omega, by omega⟩) | exact sGrown_new (.inl (List.eq_nil_of_length_eq_zero (by omega))))
      refine ⟨Value.slice A8 ((d0 ++ [(d1.1, d1.2.1)]).length) (c8), ?_, ?_⟩
      rotate_left
      · rw [he0]; exact (Ow.up (OwnL.ow ho8 rfl) (hS_.1 _ (.head _)))
      all_goals (first | rfl | (simp [*]; done))
  · -- F
    refine VD.gn rfl rfl (.inl ⟨_, rfl, rfl⟩) ?_
    refine VD.gn rfl rfl (.inl ⟨_, rfl, rfl⟩) ?_
    refine VD.gn rfl rfl (.inl ⟨_, rfl, rfl⟩) ?_
    refine VD.gn rfl rfl (.inl ⟨_, rfl, rfl⟩) ?_
    refine VD.gn rfl rfl (.inl ⟨_, rfl, rfl⟩) ?_
    refine VD.gn rfl rfl (.inl ⟨_, rfl, rfl⟩) ?_
    refine VD.gn rfl rfl (.inl ⟨_, rfl, rfl⟩) ?_
    refine VD.gn rfl rfl (.inl ⟨_, rfl, rfl⟩) ?_
    refine VD.nil rfl ?_ rfl
    refine VO.gN ?_
    refine VO.y rfl (.pF rfl rfl) ?_
    refine VO.keep [102, 0, 1] [(102, mone g1 (.cells [Value.int .i64 (d1.1), Value.int .i64 (d1.2.1), Value.slice p1_A2 (d1.2.2.length) (p1_c2)].toArray 52 (0, 0))), (0, mout (wm W) (m0)), (1, m0)] (by kernel_rfl) ?_
    refine VO.k6 0 1 3 4 5 20 ?_
    refine outN ?_
    refine VC.condF rfl ?_
    refine VC.skip ?_
    refine outN ?_
    refine VC.rs ?_
    refine VO.mv ?_
    refine VO.y rfl (.fa rfl tst52 rfl) ?_
    refine VO.y rfl (.ld1 102 rfl tk3 rfl (cellsAt_one rfl rfl)) ?_
    refine VO.y rfl (.fa rfl tst52 rfl) ?_
    refine VO.y rfl (.ld1 102 rfl tk3 rfl (cellsAt_one rfl rfl)) ?_
    refine VO.y rfl (.bst (cs := [Value.int .i64 (d1.1), Value.int .i64 (d1.2.1)]) rfl tst90 tz90 rfl) ?_
    refine VO.bsl (cs := [Value.int .i64 (d1.1), Value.int .i64 (d1.2.1)]) 110 rfl rfl tsl70 tz90 rfl rfl (fun g9 => ?_)
    obtain ⟨mo11, cs11, hM11, hA11, hC11⟩ := (Ow.ownl h0 rfl mnil)
    refine VO.app 1 rfl rfl rfl tsl70 tz90 rfl rfl hM11 hA11 (.row 110 _ _ _ 1 1 _ _ Try.underlying70 rfl (cellsAt_one rfl rfl)) (by simp [Value.oneCell']) bdm bd (by decide) (fun v11 m11 hN11 => ?_)
    have ho11 : OwnL TStart m11 mnil v11 (d0 ++ [(d1.1, d1.2.1)]) := OwnL.one hC11 hN11 (mk_Start (m := _) d1.1 d1.2.1 bdk bdk)
    obtain ⟨A11, c11, rfl, l11, k11⟩ := ho11.slice
    simp only [maxLen] at k11
    refine VO.as ?_
    refine VO.k6 0 1 3 4 5 20 ?_
    refine VC.ret ?_
    refine ⟨_, _, res_run (rs := [.tmp 4]) rfl (.tmp rfl .nil), fun W_ hI => out_of (l := [m11]) hI [1] rfl rfl (mle_refl _) (fun hS_ => ?_)⟩
    dsimp only [packV]
    have he0 : (sGrown d0 d1 : Ty.Den (.sl TStart)) = d0 ++ [(d1.1, d1.2.1)] := by first | rfl | (first | exact sGrown_same ‹d0[_]? = some _› (by omega) (by omega) | exact sGrown_new (.inr ⟨_, _, ‹d0[_]? = some _›, by omega, by omega⟩) | exact sGrown_new (.inl (List.eq_nil_of_length_eq_zero (by omega))))
    refine ⟨Value.slice A11 ((d0 ++ [(d1.1, d1.2.1)]).length) (c11), ?_, ?_⟩
    rotate_left
    · rw [he0]; exact (Ow.up (OwnL.ow ho11 rfl) (hS_.1 _ (.head _)))
    all_goals (first | rfl | (simp [*]; done))
theorem of_ok (W : World) {v0 : Value} {d0 : List DCommit} (h0 : Rd (.sl TCommit) (wm W) [v0] d0) (e0 : d0.length ≤ 8796093020000) : CallR Try.prog 91 [v0] W (mnil) (fun v m' => ∃ (s0 : Value), ∃ (s1 : List Value), v = .tuple #[s0, .agg s1.toArray] ∧ Ow (.sl TStart) m' [s0] ((sOf d0).1) ∧ Ow TFault m' s1 ((sOf d0).2)) := by
  obtain ⟨A0, c0, rfl, l0, k0⟩ := h0.slice
  simp only [maxLen] at k0
  refine CallR.ofA (n := 26) Try.func91 rfl rfl rfl ?_
  refine VC.rs ?_
  refine VO.as ?_
  refine VO.alloc 102 rfl tz57 (fun g1 => ?_)
  refine VO.k3 0 2 3 ?_
  refine VC.seq ?_
  refine VC.rs ?_
  refine VO.mv ?_
  refine VO.callN 103 rfl fnOk52 rfl (fun W hW => follows_ok W 0 bdk 0 bdk (Rd.mono h0 (hW.at (i := 0) rfl))) (fun v3 m3 hv3 => ?_)
  obtain ⟨s3_0, rfl, f3_0⟩ := hv3
  obtain ⟨rfl, q3_0_0, q3_0_1⟩ := open_Fault (x0 := (cFollows 0 0 d0).1) (x1 := (cFollows 0 0 d0).2) (f3_0.rd (mle_refl _))
  simp only [inK] at q3_0_0
  simp only [inK] at q3_0_1
  refine VO.alloc 105 rfl tz57 (fun g4 => ?_)
  refine VO.store (k := 2) (c' := [Value.int .i64 ((cFollows 0 0 d0).1), Value.int .i64 ((cFollows 0 0 d0).2)]) 105 rfl rfl (.inl tk57) rfl rfl rfl rfl rfl ?_
  refine VO.k4 0 2 3 4 ?_
  refine VC.rs ?_
  refine VO.y rfl (.fa rfl tst57 rfl) ?_
  refine VO.y rfl (.ld1 105 rfl tk26 rfl (cellsAt_one rfl rfl)) ?_
  refine VO.y rfl (.neq rfl rfl) ?_
  refine VO.keep [105, 102, 0] [(105, mone g4 (.cells [Value.int .i64 ((cFollows 0 0 d0).1), Value.int .i64 ((cFollows 0 0 d0).2)].toArray 57 (0, 0))), (102, mone g1 (.cells [Value.int .i64 (0), Value.int .i64 (0)].toArray 57 (0, 0))), (0, wm W)] (by kernel_rfl) ?_
  refine VO.k5 0 2 3 4 12 ?_
  refine VC.cond rfl (fun hc6 => ?_) (fun hc6 => ?_)
  · -- T
    refine VC.seq ?_
    refine VC.regD _ 2 [(0, true), (1, true)] follows (by kernel_rfl) (fun _ h => h.sub [105, 102, 0]) ?_
    refine VD.y rfl rfl (.inl rfl) (.ldA 105 rfl tk57 rfl (cellsAt_one rfl rfl)) ?_
    refine VD.y rfl rfl (.inl rfl) (.as rfl) ?_
    refine VD.nil rfl ?_ rfl
    refine VO.store (k := 2) (c' := [Value.int .i64 ((cFollows 0 0 d0).1), Value.int .i64 ((cFollows 0 0 d0).2)]) 102 rfl rfl (.inl tk57) rfl rfl rfl rfl rfl ?_
    refine VO.k5 0 2 3 4 12 ?_
    refine outN ?_
    refine VC.ret ?_
    refine outR ?_
    refine ⟨_, _, res_run (rs := [.tmp 2, .cell 3 57]) rfl (.tmp rfl (.agg 102 rfl tk57 rfl ⟨_, _, _, mone_self _ _, Nat.le_of_ble_eq_true rfl, rfl⟩ .nil)), fun W_ hI => out_of (l := []) hI [] rfl rfl (mle_refl _) (fun hS_ => ?_)⟩
    dsimp only [packV]
    have he0 : ((sOf d0).1 : Ty.Den (.sl TStart)) = [] := by first | rfl | (first | exact (sOf_bad1 ‹_›) | exact (sOf_bad2 ‹_›) | (rw [sOf_good1 ‹¬ ¬ _›, ho, List.take_of_length_le (by omega)]) | exact (sOf_good2 ‹¬ ¬ _›))
    have he1 : ((sOf d0).2 : Ty.Den TFault) = (cFollows 0 0 d0) := by first | rfl | (first | exact (sOf_bad1 ‹_›) | exact (sOf_bad2 ‹_›) | (rw [sOf_good1 ‹¬ ¬ _›, ho, List.take_of_length_le (by omega)]) | exact (sOf_good2 ‹¬ ¬ _›))
    refine ⟨Value.slice none (0) (0), [Value.int .i64 ((cFollows 0 0 d0).1), Value.int .i64 ((cFollows 0 0 d0).2)], ?_, ?_, ?_⟩
    rotate_left
    · rw [he0]; exact (Ow.nil _ _)
    · rw [he1]; exact (Ow.of (m := mnil) rfl (show Rd TFault _ _ (cFollows 0 0 d0) from (mk_Fault (m := _) ((cFollows 0 0 d0).1) ((cFollows 0 0 d0).2) bdk bdk)))
    all_goals (first | rfl | (simp [*]; done))
  · -- F
    refine VC.skip ?_
    refine outN ?_
    refine VC.rs ?_
    refine VO.as ?_
    refine VO.k6 0 2 3 4 5 12 ?_
    refine VC.seq ?_
    refine VC.rs ?_
    refine VO.mv ?_
    refine VO.y rfl (.lenS rfl tsl61) ?_
    refine VO.mv ?_
    refine VO.k9 0 2 3 4 5 12 14 15 16 ?_
    refine VC.block ?_
    refine VC.inv ((107, mnil) :: _) (fun _ h => h.nilc 107) ?_
    refine VC.loop (G := Nat × (List DStart) × (Option Addr) × Nat × Mem) (fun g => [(5, Value.slice (g.2.2.1) ((g.2.1).length) ((g.2.2.2.1))), (16, Value.int .i64 ((((g.1) : Nat) : Int))), (0, Value.slice A0 (d0.length) (c0)), (2, Value.slice none (0) (0)), (3, Value.pointer (some ⟨g1, 0, none⟩)), (4, Value.pointer (some ⟨g4, 0, none⟩)), (12, Value.bool (decide (¬ ((cFollows 0 0 d0).1) = 0))), (14, Value.slice A0 (d0.length) (c0)), (15, Value.int .i64 (((d0.length : Nat) : Int)))]) (fun g => [(107, (g.2.2.2.2)), (105, mone g4 (.cells [Value.int .i64 ((cFollows 0 0 d0).1), Value.int .i64 ((cFollows 0 0 d0).2)].toArray 57 (0, 0))), (102, mone g1 (.cells [Value.int .i64 (0), Value.int .i64 (0)].toArray 57 (0, 0))), (0, wm W)]) (fun g => ((g.1) ≤ d0.length) ∧ ((g.2.1) = (d0.take (g.1)).foldl sGrown []) ∧ (OwnL TStart (g.2.2.2.2) mnil (.slice (g.2.2.1) (g.2.1).length (g.2.2.2.1)) (g.2.1))) (fun g => d0.length - (g.1)) (0, [], none, 0, mnil) (⟨by omega, by rfl, (OwnL.nil TStart mnil mnil)⟩) ⟨⟨rfl, rfl, rfl, rfl, rfl, rfl, rfl, rfl, rfl, trivial⟩, fun _ h => h.sub [107, 105, 102, 0]⟩ ?_
    rintro ⟨k, out, out_A, out_c, out_m⟩ ⟨hk, ho, h_out⟩
    replace hk : k ≤ d0.length := hk
    replace ho : out = (d0.take k).foldl sGrown [] := ho
    replace h_out : OwnL TStart out_m mnil (.slice out_A out.length out_c) out := h_out
    show VC _ _ _ _ _ [(5, Value.slice out_A (out.length) (out_c)), (16, Value.int .i64 (((k : Nat) : Int))), (0, Value.slice A0 (d0.length) (c0)), (2, Value.slice none (0) (0)), (3, Value.pointer (some ⟨g1, 0, none⟩)), (4, Value.pointer (some ⟨g4, 0, none⟩)), (12, Value.bool (decide (¬ ((cFollows 0 0 d0).1) = 0))), (14, Value.slice A0 (d0.length) (c0)), (15, Value.int .i64 (((d0.length : Nat) : Int)))] [(107, out_m), (105, mone g4 (.cells [Value.int .i64 ((cFollows 0 0 d0).1), Value.int .i64 ((cFollows 0 0 d0).2)].toArray 57 (0, 0))), (102, mone g1 (.cells [Value.int .i64 (0), Value.int .i64 (0)].toArray 57 (0, 0))), (0, wm W)]
    have l_out : out.length ≤ out_c := by obtain ⟨_, _, he, hl, _⟩ := h_out.slice; simp only [Value.slice.injEq] at he; omega
    have k_out : out_c ≤ 9223372036854775807 := by obtain ⟨_, _, he, _, hl⟩ := h_out.slice; simp only [Value.slice.injEq, maxLen] at he hl; omega
    have hlo : out.length ≤ k := by have := fold_len (d0.take k) []; rw [ho]; simp at this; omega
    refine VC.rs ?_
    refine VO.y rfl (.lss rfl rfl) ?_
    refine VO.keep [107, 105, 102, 0] [(107, out_m), (105, mone g4 (.cells [Value.int .i64 ((cFollows 0 0 d0).1), Value.int .i64 ((cFollows 0 0 d0).2)].toArray 57 (0, 0))), (102, mone g1 (.cells [Value.int .i64 (0), Value.int .i64 (0)].toArray 57 (0, 0))), (0, wm W)] (by kernel_rfl) ?_
    refine VO.k10 0 2 3 4 5 12 14 15 16 17 ?_
    refine VC.seq ?_
    refine VC.cond rfl (fun hc8 => ?_) (fun hc8 => ?_)
    · -- FT
      refine VC.skip ?_
      refine outN ?_
      refine VC.seq ?_
      refine VC.block ?_
      refine VC.rs ?_
      obtain ⟨x9, hx9⟩ : ∃ z_, (d0)[k]? = some z_ := ⟨_, List.getElem?_eq_getElem bd⟩
      obtain ⟨gg9, oo9, ec9, ea9, hce9, hre9⟩ := h0.elem hx9
      cases ea9
      obtain ⟨q9_A2, q9_c2, rfl, q9_0, q9_1, q9_2⟩ := open_Commit (x0 := x9.1) (x1 := x9.2.1) (x2 := x9.2.2) hre9
      simp only [inK] at q9_0
      simp only [inK] at q9_1
      have q9_r2 := Rd.room q9_2
      refine VO.y rfl (.ixI k rfl rfl tsl61 rfl bd) ?_
      refine VO.y rfl (.ldA 0 rfl tk52 rfl hce9) ?_
      refine VO.alloc 111 rfl tz52 (fun g10 => ?_)
      refine VO.store (k := 3) (c' := [Value.int .i64 (x9.1), Value.int .i64 (x9.2.1), Value.slice q9_A2 (x9.2.2.length) (q9_c2)]) 111 rfl rfl (.inl tk52) rfl rfl rfl rfl rfl ?_
      refine VO.k11 0 2 3 4 5 7 12 14 15 16 17 ?_
      refine VC.reg ?_
      refine VO.mv ?_
      refine VO.y rfl (.ldA 111 rfl tk52 rfl (cellsAt_one rfl rfl)) ?_
      refine VO.call 107 rfl fnOk133 rfl rfl (fun W hW => grown_ok W (hW.at (i := 107) rfl) (OwnL.ow h_out rfl) (Rd.mono hre9 (hW.out (i := 107) (j := 0) rfl rfl)) bd) (fun v12 m12 hv12 => ?_)
      obtain ⟨s12_0, rfl, f12_0⟩ := hv12
      obtain ⟨A12_0, c12_0, eq12_0, l12_0, k12_0⟩ := f12_0.slice
      subst eq12_0
      simp only [maxLen] at k12_0
      refine VO.as ?_
      refine VO.k11 0 2 3 4 5 7 12 14 15 16 17 ?_
      refine outBN ?_
      refine outN ?_
      refine VC.reg ?_
      refine VO.y rfl (.add (c := ((k + 1 : Nat) : Int)) rfl rfl (by omega) ⟨bd, bd⟩) ?_
      refine VO.mv ?_
      refine VO.keep [107, 111, 105, 102, 0] [(107, m12), (111, mone g10 (.cells [Value.int .i64 (x9.1), Value.int .i64 (x9.2.1), Value.slice q9_A2 (x9.2.2.length) (q9_c2)].toArray 52 (0, 0))), (105, mone g4 (.cells [Value.int .i64 ((cFollows 0 0 d0).1), Value.int .i64 ((cFollows 0 0 d0).2)].toArray 57 (0, 0))), (102, mone g1 (.cells [Value.int .i64 (0), Value.int .i64 (0)].toArray 57 (0, 0))), (0, wm W)] (by kernel_rfl) ?_
      refine VO.k11 0 2 3 4 5 7 12 14 15 16 17 ?_
      exact outN ⟨⟨k + 1, sGrown out x9, A12_0, c12_0, m12⟩, ⟨by omega, by rw [fold_next ‹d0[k]? = some _›, ← ho], (Ow.ownl f12_0 rfl mnil)⟩, bd, ⟨⟨rfl, rfl, rfl, rfl, rfl, rfl, rfl, rfl, rfl, trivial⟩, fun _ h => Inv.sub h [107, 105, 102, 0]⟩⟩
    · -- FF
      refine VC.exit ?_
      refine outE ?_
      refine outE ?_
      refine outBB ?_
      refine outN ?_
      refine VC.rs ?_
      refine VO.mv ?_
      refine VO.y rfl (.bst (cs := [Value.int .i64 (0), Value.int .i64 (0)]) rfl tst57 tz57 rfl) ?_
      refine VO.as ?_
      refine VO.store (k := 2) (c' := [Value.int .i64 (0), Value.int .i64 (0)]) 102 rfl rfl (.inl tk57) rfl rfl rfl rfl rfl ?_
      refine VO.k10 0 2 3 4 5 12 14 15 16 17 ?_
      refine VC.ret ?_
      refine ⟨_, _, res_run (rs := [.tmp 2, .cell 3 57]) rfl (.tmp rfl (.agg 102 rfl tk57 rfl ⟨_, _, _, mone_self _ _, Nat.le_of_ble_eq_true rfl, rfl⟩ .nil)), fun W_ hI => out_of (l := [out_m]) hI [107] rfl rfl (mle_refl _) (fun hS_ => ?_)⟩
      dsimp only [packV]
      have he0 : ((sOf d0).1 : Ty.Den (.sl TStart)) = out := by first | rfl | (first | exact (sOf_bad1 ‹_›) | exact (sOf_bad2 ‹_›) | (rw [sOf_good1 ‹¬ ¬ _›, ho, List.take_of_length_le (by omega)]) | exact (sOf_good2 ‹¬ ¬ _›))
      have he1 : ((sOf d0).2 : Ty.Den TFault) = (0, 0) := by first | rfl | (first | exact (sOf_bad1 ‹_›) | exact (sOf_bad2 ‹_›) | (rw [sOf_good1 ‹¬ ¬ _›, ho, List.take_of_length_le (by omega)]) | exact (sOf_good2 ‹¬ ¬ _›))
      refine ⟨Value.slice out_A (out.length) (out_c), [Value.int .i64 (0), Value.int .i64 (0)], ?_, ?_, ?_⟩
      rotate_left
      · rw [he0]; exact (Ow.up (OwnL.ow h_out rfl) (hS_.1 _ (.head _)))
      · rw [he1]; exact (Ow.of (m := mnil) rfl (mk_Fault (m := _) 0 0 bdk bdk))
      all_goals (first | rfl | (simp [*]; done))
theorem ack_ok (W : World) (d0 : Int) (h0 : inK .i64 d0) (d1 : Int) (h1 : inK .i64 d1) : CallR Try.prog 68 [.int .i64 d0, .int .i64 d1] W (mnil) (fun v m' => ∃ (s0 : List Value), v = .tuple #[.agg s0.toArray, .int .i64 ((shipAck d0 d1).2)] ∧ Ow TMessage m' s0 ((shipAck d0 d1).1)) := by
  have h0' := h0; simp only [inK] at h0'
  have h1' := h1; simp only [inK] at h1'
  refine CallR.ofA (n := 24) Try.func68 rfl rfl rfl ?_
  refine VC.rs ?_
  refine VO.alloc 102 rfl tz72 (fun g1 => ?_)
  refine VO.as ?_
  refine VO.k4 0 1 4 5 ?_
  refine VC.seq ?_
  refine VC.rs ?_
  refine VO.mv ?_
  refine VO.y rfl (.lss rfl rfl) ?_
  refine VO.mv ?_
  refine VO.dec (t := 8) rfl (fun hc3 => ?_) (fun hc3 => ?_)
  · -- T
    refine VO.gN ?_
    refine VO.gN ?_
    refine VO.y rfl (.pT rfl rfl) ?_
    refine VO.mv ?_
    refine VO.gN ?_
    refine VO.gN ?_
    refine VO.y rfl (.pT rfl rfl) ?_
    refine VO.mv ?_
    refine VO.gN ?_
    refine VO.gN ?_
    refine VO.y rfl (.pT rfl rfl) ?_
    refine VO.k5 0 1 4 5 19 ?_
    refine VC.condT rfl ?_
    refine VC.rs ?_
    refine VO.y rfl (.bst (cs := [Value.int .i64 (0), Value.int .i64 (0), Value.int .u8 (0), Value.int .i64 (0), Value.slice none (0) (0), Value.int .i64 (0), Value.int .i64 (0), Value.slice none (0) (0)]) rfl tst72 tz72 rfl) ?_
    refine VO.store (k := 8) (c' := [Value.int .i64 (0), Value.int .i64 (0), Value.int .u8 (0), Value.int .i64 (0), Value.slice none (0) (0), Value.int .i64 (0), Value.int .i64 (0), Value.slice none (0) (0)]) 102 rfl rfl (.inl tk72) rfl rfl rfl rfl rfl ?_
    refine VO.as ?_
    refine VO.keep [102, 0] [(102, mone g1 (.cells [Value.int .i64 (0), Value.int .i64 (0), Value.int .u8 (0), Value.int .i64 (0), Value.slice none (0) (0), Value.int .i64 (0), Value.int .i64 (0), Value.slice none (0) (0)].toArray 72 (0, 0))), (0, wm W)] (by kernel_rfl) ?_
    refine VO.k5 0 1 4 5 19 ?_
    refine VC.ret ?_
    refine outR ?_
    refine ⟨_, _, res_run (rs := [.cell 4 72, .tmp 5]) rfl (.agg 102 rfl tk72 rfl ⟨_, _, _, mone_self _ _, Nat.le_of_ble_eq_true rfl, rfl⟩ (.tmp rfl .nil)), fun W_ hI => out_of (l := []) hI [] rfl rfl (mle_refl _) (fun hS_ => ?_)⟩
    dsimp only [packV]
    have he0 : ((shipAck d0 d1).1 : Ty.Den TMessage) = (0, 0, 0, 0, [], 0, 0, []) := by first | rfl | (first | (rw [ack_bad (by omega)]; rfl) | rw [ack_good (by omega) (by omega) (by omega) (by omega)])
    refine ⟨[Value.int .i64 (0), Value.int .i64 (0), Value.int .u8 (0), Value.int .i64 (0), Value.slice none (0) (0), Value.int .i64 (0), Value.int .i64 (0), Value.slice none (0) (0)], ?_, ?_⟩
    rotate_left
    · rw [he0]; exact (mkO_Message 0 0 0 0 [] 0 0 [] (Seps.nilAt 1 (Seps.nilAt 0 hS_)) bdk bdk bdk bdk (Ow.nil _ _) bdk bdk (Ow.nil _ _))
    all_goals (first | rfl | (first | (rw [ack_bad (by omega)]; rfl) | (rw [ack_good (by omega) (by omega) (by omega) (by omega)]; rfl)))
  · -- F
    refine VO.gy rfl ⟨_, rfl, rfl⟩ (.mv rfl) ?_
    refine VO.gy rfl ⟨_, rfl, rfl⟩ (.gtr rfl rfl) ?_
    refine VO.y rfl (.pF rfl rfl) ?_
    refine VO.mv ?_
    refine VO.dec (t := 12) rfl (fun hc4 => ?_) (fun hc4 => ?_)
    · -- FT
      refine VO.gN ?_
      refine VO.gN ?_
      refine VO.y rfl (.pT rfl rfl) ?_
      refine VO.mv ?_
      refine VO.gN ?_
      refine VO.gN ?_
      refine VO.y rfl (.pT rfl rfl) ?_
      refine VO.k5 0 1 4 5 19 ?_
      refine VC.condT rfl ?_
      refine VC.rs ?_
      refine VO.y rfl (.bst (cs := [Value.int .i64 (0), Value.int .i64 (0), Value.int .u8 (0), Value.int .i64 (0), Value.slice none (0) (0), Value.int .i64 (0), Value.int .i64 (0), Value.slice none (0) (0)]) rfl tst72 tz72 rfl) ?_
      refine VO.store (k := 8) (c' := [Value.int .i64 (0), Value.int .i64 (0), Value.int .u8 (0), Value.int .i64 (0), Value.slice none (0) (0), Value.int .i64 (0), Value.int .i64 (0), Value.slice none (0) (0)]) 102 rfl rfl (.inl tk72) rfl rfl rfl rfl rfl ?_
      refine VO.as ?_
      refine VO.keep [102, 0] [(102, mone g1 (.cells [Value.int .i64 (0), Value.int .i64 (0), Value.int .u8 (0), Value.int .i64 (0), Value.slice none (0) (0), Value.int .i64 (0), Value.int .i64 (0), Value.slice none (0) (0)].toArray 72 (0, 0))), (0, wm W)] (by kernel_rfl) ?_
      refine VO.k5 0 1 4 5 19 ?_
      refine VC.ret ?_
      refine outR ?_
      refine ⟨_, _, res_run (rs := [.cell 4 72, .tmp 5]) rfl (.agg 102 rfl tk72 rfl ⟨_, _, _, mone_self _ _, Nat.le_of_ble_eq_true rfl, rfl⟩ (.tmp rfl .nil)), fun W_ hI => out_of (l := []) hI [] rfl rfl (mle_refl _) (fun hS_ => ?_)⟩
      dsimp only [packV]
      have he0 : ((shipAck d0 d1).1 : Ty.Den TMessage) = (0, 0, 0, 0, [], 0, 0, []) := by first | rfl | (first | (rw [ack_bad (by omega)]; rfl) | rw [ack_good (by omega) (by omega) (by omega) (by omega)])
      refine ⟨[Value.int .i64 (0), Value.int .i64 (0), Value.int .u8 (0), Value.int .i64 (0), Value.slice none (0) (0), Value.int .i64 (0), Value.int .i64 (0), Value.slice none (0) (0)], ?_, ?_⟩
      rotate_left
      · rw [he0]; exact (mkO_Message 0 0 0 0 [] 0 0 [] (Seps.nilAt 1 (Seps.nilAt 0 hS_)) bdk bdk bdk bdk (Ow.nil _ _) bdk bdk (Ow.nil _ _))
      all_goals (first | rfl | (first | (rw [ack_bad (by omega)]; rfl) | (rw [ack_good (by omega) (by omega) (by omega) (by omega)]; rfl)))
    · -- FF
      refine VO.gy rfl ⟨_, rfl, rfl⟩ (.mv rfl) ?_
      refine VO.gy rfl ⟨_, rfl, rfl⟩ (.lss rfl rfl) ?_
      refine VO.y rfl (.pF rfl rfl) ?_
      refine VO.mv ?_
      refine VO.dec (t := 16) rfl (fun hc5 => ?_) (fun hc5 => ?_)
      · -- FFT
        refine VO.gN ?_
        refine VO.gN ?_
        refine VO.y rfl (.pT rfl rfl) ?_
        refine VO.k5 0 1 4 5 19 ?_
        refine VC.condT rfl ?_
        refine VC.rs ?_
        refine VO.y rfl (.bst (cs := [Value.int .i64 (0), Value.int .i64 (0), Value.int .u8 (0), Value.int .i64 (0), Value.slice none (0) (0), Value.int .i64 (0), Value.int .i64 (0), Value.slice none (0) (0)]) rfl tst72 tz72 rfl) ?_
        refine VO.store (k := 8) (c' := [Value.int .i64 (0), Value.int .i64 (0), Value.int .u8 (0), Value.int .i64 (0), Value.slice none (0) (0), Value.int .i64 (0), Value.int .i64 (0), Value.slice none (0) (0)]) 102 rfl rfl (.inl tk72) rfl rfl rfl rfl rfl ?_
        refine VO.as ?_
        refine VO.keep [102, 0] [(102, mone g1 (.cells [Value.int .i64 (0), Value.int .i64 (0), Value.int .u8 (0), Value.int .i64 (0), Value.slice none (0) (0), Value.int .i64 (0), Value.int .i64 (0), Value.slice none (0) (0)].toArray 72 (0, 0))), (0, wm W)] (by kernel_rfl) ?_
        refine VO.k5 0 1 4 5 19 ?_
        refine VC.ret ?_
        refine outR ?_
        refine ⟨_, _, res_run (rs := [.cell 4 72, .tmp 5]) rfl (.agg 102 rfl tk72 rfl ⟨_, _, _, mone_self _ _, Nat.le_of_ble_eq_true rfl, rfl⟩ (.tmp rfl .nil)), fun W_ hI => out_of (l := []) hI [] rfl rfl (mle_refl _) (fun hS_ => ?_)⟩
        dsimp only [packV]
        have he0 : ((shipAck d0 d1).1 : Ty.Den TMessage) = (0, 0, 0, 0, [], 0, 0, []) := by first | rfl | (first | (rw [ack_bad (by omega)]; rfl) | rw [ack_good (by omega) (by omega) (by omega) (by omega)])
        refine ⟨[Value.int .i64 (0), Value.int .i64 (0), Value.int .u8 (0), Value.int .i64 (0), Value.slice none (0) (0), Value.int .i64 (0), Value.int .i64 (0), Value.slice none (0) (0)], ?_, ?_⟩
        rotate_left
        · rw [he0]; exact (mkO_Message 0 0 0 0 [] 0 0 [] (Seps.nilAt 1 (Seps.nilAt 0 hS_)) bdk bdk bdk bdk (Ow.nil _ _) bdk bdk (Ow.nil _ _))
        all_goals (first | rfl | (first | (rw [ack_bad (by omega)]; rfl) | (rw [ack_good (by omega) (by omega) (by omega) (by omega)]; rfl)))
      · -- FFF
        refine VO.gy rfl ⟨_, rfl, rfl⟩ (.mv rfl) ?_
        refine VO.gy rfl ⟨_, rfl, rfl⟩ (.gtr rfl rfl) ?_
        refine VO.y rfl (.pF rfl rfl) ?_
        refine VO.k5 0 1 4 5 19 ?_
        refine VC.cond rfl (fun hc6 => ?_) (fun hc6 => ?_)
        · -- FFFT
          refine VC.rs ?_
          refine VO.y rfl (.bst (cs := [Value.int .i64 (0), Value.int .i64 (0), Value.int .u8 (0), Value.int .i64 (0), Value.slice none (0) (0), Value.int .i64 (0), Value.int .i64 (0), Value.slice none (0) (0)]) rfl tst72 tz72 rfl) ?_
          refine VO.store (k := 8) (c' := [Value.int .i64 (0), Value.int .i64 (0), Value.int .u8 (0), Value.int .i64 (0), Value.slice none (0) (0), Value.int .i64 (0), Value.int .i64 (0), Value.slice none (0) (0)]) 102 rfl rfl (.inl tk72) rfl rfl rfl rfl rfl ?_
          refine VO.as ?_
          refine VO.keep [102, 0] [(102, mone g1 (.cells [Value.int .i64 (0), Value.int .i64 (0), Value.int .u8 (0), Value.int .i64 (0), Value.slice none (0) (0), Value.int .i64 (0), Value.int .i64 (0), Value.slice none (0) (0)].toArray 72 (0, 0))), (0, wm W)] (by kernel_rfl) ?_
          refine VO.k5 0 1 4 5 19 ?_
          refine VC.ret ?_
          refine outR ?_
          refine ⟨_, _, res_run (rs := [.cell 4 72, .tmp 5]) rfl (.agg 102 rfl tk72 rfl ⟨_, _, _, mone_self _ _, Nat.le_of_ble_eq_true rfl, rfl⟩ (.tmp rfl .nil)), fun W_ hI => out_of (l := []) hI [] rfl rfl (mle_refl _) (fun hS_ => ?_)⟩
          dsimp only [packV]
          have he0 : ((shipAck d0 d1).1 : Ty.Den TMessage) = (0, 0, 0, 0, [], 0, 0, []) := by first | rfl | (first | (rw [ack_bad (by omega)]; rfl) | rw [ack_good (by omega) (by omega) (by omega) (by omega)])
          refine ⟨[Value.int .i64 (0), Value.int .i64 (0), Value.int .u8 (0), Value.int .i64 (0), Value.slice none (0) (0), Value.int .i64 (0), Value.int .i64 (0), Value.slice none (0) (0)], ?_, ?_⟩
          rotate_left
          · rw [he0]; exact (mkO_Message 0 0 0 0 [] 0 0 [] (Seps.nilAt 1 (Seps.nilAt 0 hS_)) bdk bdk bdk bdk (Ow.nil _ _) bdk bdk (Ow.nil _ _))
          all_goals (first | rfl | (first | (rw [ack_bad (by omega)]; rfl) | (rw [ack_good (by omega) (by omega) (by omega) (by omega)]; rfl)))
        · -- FFFF
          refine VC.skip ?_
          refine outN ?_
          refine VC.rs ?_
          refine VO.mv ?_
          refine VO.mv ?_
          refine VO.y rfl (.bst (cs := [Value.int .i64 (3), Value.int .i64 (d0), Value.int .u8 (0), Value.int .i64 (d1), Value.slice none (0) (0), Value.int .i64 (0), Value.int .i64 (0), Value.slice none (0) (0)]) rfl tst72 tz72 rfl) ?_
          refine VO.store (k := 8) (c' := [Value.int .i64 (3), Value.int .i64 (d0), Value.int .u8 (0), Value.int .i64 (d1), Value.slice none (0) (0), Value.int .i64 (0), Value.int .i64 (0), Value.slice none (0) (0)]) 102 rfl rfl (.inl tk72) rfl rfl rfl rfl rfl ?_
          refine VO.as ?_
          refine VO.keep [102, 0] [(102, mone g1 (.cells [Value.int .i64 (3), Value.int .i64 (d0), Value.int .u8 (0), Value.int .i64 (d1), Value.slice none (0) (0), Value.int .i64 (0), Value.int .i64 (0), Value.slice none (0) (0)].toArray 72 (0, 0))), (0, wm W)] (by kernel_rfl) ?_
          refine VO.k5 0 1 4 5 19 ?_
          refine VC.ret ?_
          refine ⟨_, _, res_run (rs := [.cell 4 72, .tmp 5]) rfl (.agg 102 rfl tk72 rfl ⟨_, _, _, mone_self _ _, Nat.le_of_ble_eq_true rfl, rfl⟩ (.tmp rfl .nil)), fun W_ hI => out_of (l := []) hI [] rfl rfl (mle_refl _) (fun hS_ => ?_)⟩
          dsimp only [packV]
          have he0 : ((shipAck d0 d1).1 : Ty.Den TMessage) = (3, d0, 0, d1, [], 0, 0, []) := by first | rfl | (first | (rw [ack_bad (by omega)]; rfl) | rw [ack_good (by omega) (by omega) (by omega) (by omega)])
          refine ⟨[Value.int .i64 (3), Value.int .i64 (d0), Value.int .u8 (0), Value.int .i64 (d1), Value.slice none (0) (0), Value.int .i64 (0), Value.int .i64 (0), Value.slice none (0) (0)], ?_, ?_⟩
          rotate_left
          · rw [he0]; exact (mkO_Message 3 d0 0 d1 [] 0 0 [] (Seps.nilAt 1 (Seps.nilAt 0 hS_)) bdk bdk bdk bdk (Ow.nil _ _) bdk bdk (Ow.nil _ _))
          all_goals (first | rfl | (first | (rw [ack_bad (by omega)]; rfl) | (rw [ack_good (by omega) (by omega) (by omega) (by omega)]; rfl)))
theorem hello_ok (W : World) (d0 : Int) (h0 : inK .i64 d0) (d1 : Int) (h1 : inK .u8 d1) {v2 : Value} {d2 : List DCommit} (h2 : Rd (.sl TCommit) (wm W) [v2] d2) (e0 : d2.length ≤ 8796093020000) : CallR Try.prog 67 [.int .i64 d0, .int .u8 d1, v2] W (mnil) (fun v m' => ∃ (s0 : List Value), v = .tuple #[.agg s0.toArray, .int .i64 ((shipHello d0 d1 d2).2)] ∧ Ow TMessage m' s0 ((shipHello d0 d1 d2).1)) := by
  have h0' := h0; simp only [inK] at h0'
  have h1' := h1; simp only [inK] at h1'
  obtain ⟨A2, c2, rfl, l2, k2⟩ := h2.slice
  simp only [maxLen] at k2
  refine CallR.ofA (n := 36) Try.func67 rfl rfl rfl ?_
  refine VC.rs ?_
  refine VO.alloc 102 rfl tz72 (fun g1 => ?_)
  refine VO.as ?_
  refine VO.k5 0 1 2 6 7 ?_
  refine VC.seq ?_
  refine VC.rs ?_
  refine VO.mv ?_
  refine VO.mv ?_
  refine VO.callN 103 rfl fnOk112 rfl (fun W hW => wrong_ok W d0 bdk (Rd.mono h2 (hW.at (i := 0) rfl))) (fun v3 m3 hv3 => ?_)
  subst hv3
  have hfa4 := shipWrong_range d0 d2
  refine VO.as ?_
  refine VO.k6 0 1 2 6 7 8 ?_
  refine VC.rs ?_
  refine VO.mv ?_
  refine VO.y rfl (.neq rfl rfl) ?_
  refine VO.keep [102, 0] [(102, mone g1 (.cells [Value.int .i64 (0), Value.int .i64 (0), Value.int .u8 (0), Value.int .i64 (0), Value.slice none (0) (0), Value.int .i64 (0), Value.int .i64 (0), Value.slice none (0) (0)].toArray 72 (0, 0))), (0, wm W)] (by kernel_rfl) ?_
  refine VO.k7 0 1 2 6 7 8 15 ?_
  refine VC.cond rfl (fun hc5 => ?_) (fun hc5 => ?_)
  · -- T
    refine VC.rs ?_
    refine VO.y rfl (.bst (cs := [Value.int .i64 (0), Value.int .i64 (0), Value.int .u8 (0), Value.int .i64 (0), Value.slice none (0) (0), Value.int .i64 (0), Value.int .i64 (0), Value.slice none (0) (0)]) rfl tst72 tz72 rfl) ?_
    refine VO.mv ?_
    refine VO.store (k := 8) (c' := [Value.int .i64 (0), Value.int .i64 (0), Value.int .u8 (0), Value.int .i64 (0), Value.slice none (0) (0), Value.int .i64 (0), Value.int .i64 (0), Value.slice none (0) (0)]) 102 rfl rfl (.inl tk72) rfl rfl rfl rfl rfl ?_
    refine VO.as ?_
    refine VO.k7 0 1 2 6 7 8 15 ?_
    refine VC.ret ?_
    refine outR ?_
    refine ⟨_, _, res_run (rs := [.cell 6 72, .tmp 7]) rfl (.agg 102 rfl tk72 rfl ⟨_, _, _, mone_self _ _, Nat.le_of_ble_eq_true rfl, rfl⟩ (.tmp rfl .nil)), fun W_ hI => out_of (l := []) hI [] rfl rfl (mle_refl _) (fun hS_ => ?_)⟩
    dsimp only [packV]
    have he0 : ((shipHello d0 d1 d2).1 : Ty.Den TMessage) = (0, 0, 0, 0, [], 0, 0, []) := by first | rfl | (first | (rw [hello_wrong ‹_›]; rfl) | (rw [hello_arg ‹¬ ¬ _› (by omega)]; rfl) | rw [hello_good ‹¬ ¬ _› (by omega) (by omega)])
    refine ⟨[Value.int .i64 (0), Value.int .i64 (0), Value.int .u8 (0), Value.int .i64 (0), Value.slice none (0) (0), Value.int .i64 (0), Value.int .i64 (0), Value.slice none (0) (0)], ?_, ?_⟩
    rotate_left
    · rw [he0]; exact (mkO_Message 0 0 0 0 [] 0 0 [] (Seps.nilAt 1 (Seps.nilAt 0 hS_)) bdk bdk bdk bdk (Ow.nil _ _) bdk bdk (Ow.nil _ _))
    all_goals (first | rfl | (first | (rw [hello_wrong ‹_›]; rfl) | (rw [hello_arg ‹¬ ¬ _› (by omega)]; rfl) | (rw [hello_good ‹¬ ¬ _› (by omega) (by omega)]; rfl)))
  · -- F
    refine VC.skip ?_
    refine outN ?_
    refine VC.seq ?_
    refine VC.rs ?_
    refine VO.mv ?_
    refine VO.y rfl (.lss rfl rfl) ?_
    refine VO.mv ?_
    refine VO.dec (t := 20) rfl (fun hc6 => ?_) (fun hc6 => ?_)
    · -- FT
      refine VO.gN ?_
      refine VO.gN ?_
      refine VO.y rfl (.pT rfl rfl) ?_
      refine VO.k8 0 1 2 6 7 8 15 23 ?_
      refine VC.condT rfl ?_
      refine VC.rs ?_
      refine VO.y rfl (.bst (cs := [Value.int .i64 (0), Value.int .i64 (0), Value.int .u8 (0), Value.int .i64 (0), Value.slice none (0) (0), Value.int .i64 (0), Value.int .i64 (0), Value.slice none (0) (0)]) rfl tst72 tz72 rfl) ?_
      refine VO.store (k := 8) (c' := [Value.int .i64 (0), Value.int .i64 (0), Value.int .u8 (0), Value.int .i64 (0), Value.slice none (0) (0), Value.int .i64 (0), Value.int .i64 (0), Value.slice none (0) (0)]) 102 rfl rfl (.inl tk72) rfl rfl rfl rfl rfl ?_
      refine VO.as ?_
      refine VO.k8 0 1 2 6 7 8 15 23 ?_
      refine VC.ret ?_
      refine outR ?_
      refine ⟨_, _, res_run (rs := [.cell 6 72, .tmp 7]) rfl (.agg 102 rfl tk72 rfl ⟨_, _, _, mone_self _ _, Nat.le_of_ble_eq_true rfl, rfl⟩ (.tmp rfl .nil)), fun W_ hI => out_of (l := []) hI [] rfl rfl (mle_refl _) (fun hS_ => ?_)⟩
      dsimp only [packV]
      have he0 : ((shipHello d0 d1 d2).1 : Ty.Den TMessage) = (0, 0, 0, 0, [], 0, 0, []) := by first | rfl | (first | (rw [hello_wrong ‹_›]; rfl) | (rw [hello_arg ‹¬ ¬ _› (by omega)]; rfl) | rw [hello_good ‹¬ ¬ _› (by omega) (by omega)])
      refine ⟨[Value.int .i64 (0), Value.int .i64 (0), Value.int .u8 (0), Value.int .i64 (0), Value.slice none (0) (0), Value.int .i64 (0), Value.int .i64 (0), Value.slice none (0) (0)], ?_, ?_⟩
      rotate_left
      · rw [he0]; exact (mkO_Message 0 0 0 0 [] 0 0 [] (Seps.nilAt 1 (Seps.nilAt 0 hS_)) bdk bdk bdk bdk (Ow.nil _ _) bdk bdk (Ow.nil _ _))
      all_goals (first | rfl | (first | (rw [hello_wrong ‹_›]; rfl) | (rw [hello_arg ‹¬ ¬ _› (by omega)]; rfl) | (rw [hello_good ‹¬ ¬ _› (by omega) (by omega)]; rfl)))
    · -- FF
      refine VO.gy rfl ⟨_, rfl, rfl⟩ (.mv rfl) ?_
      refine VO.gy rfl ⟨_, rfl, rfl⟩ (.gtr rfl rfl) ?_
      refine VO.y rfl (.pF rfl rfl) ?_
      refine VO.k8 0 1 2 6 7 8 15 23 ?_
      refine VC.cond rfl (fun hc7 => ?_) (fun hc7 => ?_)
      · -- FFT
        refine VC.rs ?_
        refine VO.y rfl (.bst (cs := [Value.int .i64 (0), Value.int .i64 (0), Value.int .u8 (0), Value.int .i64 (0), Value.slice none (0) (0), Value.int .i64 (0), Value.int .i64 (0), Value.slice none (0) (0)]) rfl tst72 tz72 rfl) ?_
        refine VO.store (k := 8) (c' := [Value.int .i64 (0), Value.int .i64 (0), Value.int .u8 (0), Value.int .i64 (0), Value.slice none (0) (0), Value.int .i64 (0), Value.int .i64 (0), Value.slice none (0) (0)]) 102 rfl rfl (.inl tk72) rfl rfl rfl rfl rfl ?_
        refine VO.as ?_
        refine VO.k8 0 1 2 6 7 8 15 23 ?_
        refine VC.ret ?_
        refine outR ?_
        refine ⟨_, _, res_run (rs := [.cell 6 72, .tmp 7]) rfl (.agg 102 rfl tk72 rfl ⟨_, _, _, mone_self _ _, Nat.le_of_ble_eq_true rfl, rfl⟩ (.tmp rfl .nil)), fun W_ hI => out_of (l := []) hI [] rfl rfl (mle_refl _) (fun hS_ => ?_)⟩
        dsimp only [packV]
        have he0 : ((shipHello d0 d1 d2).1 : Ty.Den TMessage) = (0, 0, 0, 0, [], 0, 0, []) := by first | rfl | (first | (rw [hello_wrong ‹_›]; rfl) | (rw [hello_arg ‹¬ ¬ _› (by omega)]; rfl) | rw [hello_good ‹¬ ¬ _› (by omega) (by omega)])
        refine ⟨[Value.int .i64 (0), Value.int .i64 (0), Value.int .u8 (0), Value.int .i64 (0), Value.slice none (0) (0), Value.int .i64 (0), Value.int .i64 (0), Value.slice none (0) (0)], ?_, ?_⟩
        rotate_left
        · rw [he0]; exact (mkO_Message 0 0 0 0 [] 0 0 [] (Seps.nilAt 1 (Seps.nilAt 0 hS_)) bdk bdk bdk bdk (Ow.nil _ _) bdk bdk (Ow.nil _ _))
        all_goals (first | rfl | (first | (rw [hello_wrong ‹_›]; rfl) | (rw [hello_arg ‹¬ ¬ _› (by omega)]; rfl) | (rw [hello_good ‹¬ ¬ _› (by omega) (by omega)]; rfl)))
      · -- FFF
        refine VC.skip ?_
        refine outN ?_
        refine VC.rs ?_
        refine VO.mv ?_
        refine VO.callN 108 rfl fnOk91 rfl (fun W hW => of_ok W (Rd.mono h2 (hW.at (i := 0) rfl)) bd) (fun v8 m8 hv8 => ?_)
        obtain ⟨s8_0, s8_1, rfl, f8_0, f8_1⟩ := hv8
        obtain ⟨A8_0, c8_0, eq8_0, l8_0, k8_0⟩ := f8_0.slice
        subst eq8_0
        simp only [maxLen] at k8_0
        obtain ⟨rfl, q8_1_0, q8_1_1⟩ := open_Fault (x0 := ((sOf d2).2).1) (x1 := ((sOf d2).2).2) (f8_1.rd (mle_refl _))
        simp only [inK] at q8_1_0
        simp only [inK] at q8_1_1
        refine VO.mv ?_
        refine VO.y rfl (.ext rfl rfl) ?_
        refine VO.y rfl (.ext rfl rfl) ?_
        refine VO.alloc 110 rfl tz57 (fun g9 => ?_)
        refine VO.as ?_
        refine VO.store (k := 2) (c' := [Value.int .i64 (((sOf d2).2).1), Value.int .i64 (((sOf d2).2).2)]) 110 rfl rfl (.inl tk57) rfl rfl rfl rfl rfl ?_
        refine VO.k9 0 1 2 6 7 8 9 15 23 ?_
        refine VC.rs ?_
        refine VO.mv ?_
        refine VO.mv ?_
        refine VO.mv ?_
        refine VO.y rfl (.lenS rfl tsl61) ?_
        refine VO.mv ?_
        refine VO.y rfl (.bst (cs := [Value.int .i64 (1), Value.int .i64 (d0), Value.int .u8 (d1), Value.int .i64 (((d2.length : Nat) : Int)), Value.slice A8_0 (((sOf d2).1).length) (c8_0), Value.int .i64 (0), Value.int .i64 (0), Value.slice none (0) (0)]) rfl tst72 tz72 rfl) ?_
        refine VO.store (k := 8) (c' := [Value.int .i64 (1), Value.int .i64 (d0), Value.int .u8 (d1), Value.int .i64 (((d2.length : Nat) : Int)), Value.slice A8_0 (((sOf d2).1).length) (c8_0), Value.int .i64 (0), Value.int .i64 (0), Value.slice none (0) (0)]) 102 rfl rfl (.inl tk72) rfl rfl rfl rfl rfl ?_
        refine VO.as ?_
        refine VO.keep [108, 102, 0] [(108, m8), (102, mone g1 (.cells [Value.int .i64 (1), Value.int .i64 (d0), Value.int .u8 (d1), Value.int .i64 (((d2.length : Nat) : Int)), Value.slice A8_0 (((sOf d2).1).length) (c8_0), Value.int .i64 (0), Value.int .i64 (0), Value.slice none (0) (0)].toArray 72 (0, 0))), (0, wm W)] (by kernel_rfl) ?_
        refine VO.k9 0 1 2 6 7 8 9 15 23 ?_
        refine VC.ret ?_
        refine ⟨_, _, res_run (rs := [.cell 6 72, .tmp 7]) rfl (.agg 102 rfl tk72 rfl ⟨_, _, _, mone_self _ _, Nat.le_of_ble_eq_true rfl, rfl⟩ (.tmp rfl .nil)), fun W_ hI => out_of (l := [m8]) hI [108] rfl rfl (mle_refl _) (fun hS_ => ?_)⟩
        dsimp only [packV]
        have he0 : ((shipHello d0 d1 d2).1 : Ty.Den TMessage) = (1, d0, d1, ((d2.length : Nat) : Int), (sOf d2).1, 0, 0, []) := by first | rfl | (first | (rw [hello_wrong ‹_›]; rfl) | (rw [hello_arg ‹¬ ¬ _› (by omega)]; rfl) | rw [hello_good ‹¬ ¬ _› (by omega) (by omega)])
        refine ⟨[Value.int .i64 (1), Value.int .i64 (d0), Value.int .u8 (d1), Value.int .i64 (((d2.length : Nat) : Int)), Value.slice A8_0 (((sOf d2).1).length) (c8_0), Value.int .i64 (0), Value.int .i64 (0), Value.slice none (0) (0)], ?_, ?_⟩
        rotate_left
        · rw [he0]; exact (mkO_Message 1 d0 d1 ((d2.length : Nat) : Int) ((sOf d2).1) 0 0 [] (Seps.nilAt 1 hS_) bdk bdk bdk bdk (OwnL.ow (Ow.ownl f8_0 rfl mnil) rfl) bdk bdk (Ow.nil _ _))
        all_goals (first | rfl | (first | (rw [hello_wrong ‹_›]; rfl) | (rw [hello_arg ‹¬ ¬ _› (by omega)]; rfl) | (rw [hello_good ‹¬ ¬ _› (by omega) (by omega)]; rfl)))
end
section
set_option linter.unusedVariables false
set_option linter.unusedSimpArgs false
set_option maxRecDepth 4000
theorem fnOk113 : fnOk Try.prog 113 = true := by kernel_rfl
theorem fnOk49 : fnOk Try.prog 49 = true := by kernel_rfl
theorem fnOk69 : fnOk Try.prog 69 = true := by kernel_rfl
theorem tk61 : tk Try.prog 61 = some none := by kernel_rfl
theorem tk69 : tk Try.prog 69 = some none := by kernel_rfl
theorem tk70 : tk Try.prog 70 = some none := by kernel_rfl
theorem SameStarts_ok (W : World) {v0 : Value} {d0 : List DStart} (h0 : Rd (.sl TStart) (wm W) [v0] d0) {v1 : Value} {d1 : List DStart} (h1 : Rd (.sl TStart) (wm W) [v1] d1) : CallR Try.prog 113 [v0, v1] W (mnil) (fun v m' => v = .bool (decide (d0 = d1))) := by
  obtain ⟨A0, c0, rfl, l0, k0⟩ := h0.slice
  simp only [maxLen] at k0
  obtain ⟨A1, c1, rfl, l1, k1⟩ := h1.slice
  simp only [maxLen] at k1
  refine CallR.ofA (n := 41) Try.func113 rfl rfl rfl ?_
  refine VC.rs ?_
  refine VO.as ?_
  refine VO.k3 0 1 4 ?_
  refine VC.seq ?_
  refine VC.rs ?_
  refine VO.mv ?_
  refine VO.y rfl (.lenS rfl tsl70) ?_
  refine VO.mv ?_
  refine VO.y rfl (.lenS rfl tsl70) ?_
  refine VO.y rfl (.neq rfl rfl) ?_
  refine VO.k4 0 1 4 10 ?_
  refine VC.cond rfl (fun hc1 => ?_) (fun hc1 => ?_)
  · -- T
    refine VC.rs ?_
    refine VO.as ?_
    refine VO.keep [0] [(0, wm W)] (by kernel_rfl) ?_
    refine VO.k4 0 1 4 10 ?_
    refine VC.ret ?_
    refine outR ?_
    refine ⟨_, _, res_run (rs := [.tmp 4]) rfl (.tmp rfl .nil), fun W_ hI => out_of (l := []) hI [] rfl rfl (mle_refl _) (fun hS_ => ?_)⟩
    dsimp only [packV]
    all_goals (first | rfl | (simp [len_ne hc1]))
  · -- F
    refine VC.skip ?_
    refine outN ?_
    refine VC.seq ?_
    refine VC.rs ?_
    refine VO.as ?_
    refine VO.keep [0] [(0, wm W)] (by kernel_rfl) ?_
    refine VO.k5 0 1 4 5 10 ?_
    refine VC.block ?_
    refine VC.loop (G := Nat) (fun k => [(5, Value.int .i64 (((k : Nat) : Int))), (0, Value.slice A0 (d0.length) (c0)), (1, Value.slice A1 (d1.length) (c1)), (10, Value.bool (decide (¬ ((d0.length : Nat) : Int) = ((d1.length : Nat) : Int))))]) (fun k => [(0, wm W)]) (fun k => (k ≤ d0.length) ∧ (d0.take k = d1.take k)) (fun k => d0.length - k) 0 (⟨by omega, by rfl⟩) ⟨⟨rfl, rfl, rfl, rfl, trivial⟩, fun _ h => h.sub [0]⟩ ?_
    rintro k ⟨hk, ht⟩
    refine VC.seq ?_
    refine VC.rs ?_
    refine VO.mv ?_
    refine VO.mv ?_
    refine VO.y rfl (.lenS rfl tsl70) ?_
    refine VO.y rfl (.lss rfl rfl) ?_
    refine VO.k5 0 1 5 10 14 ?_
    refine VC.cond rfl (fun hc2 => ?_) (fun hc2 => ?_)
    · -- FT
      refine VC.skip ?_
      refine outN ?_
      refine VC.seq ?_
      refine VC.block ?_
      refine VC.seq ?_
      refine VC.regD _ 22 [(0, true), (1, true), (2, true), (3, true), (4, true), (5, true), (6, true), (7, true), (8, true), (9, true), (10, true), (11, true), (12, true), (13, true), (14, true), (15, true), (16, true), (17, true), (18, true), (19, true), (20, true), (21, true)] follows (by kernel_rfl) (fun _ h => h.sub [0]) ?_
      refine VD.y rfl rfl (.inl rfl) (.mv rfl) ?_
      refine VD.y rfl rfl (.inl rfl) (.mv rfl) ?_
      obtain ⟨x3, hx3⟩ : ∃ z_, (d0)[k]? = some z_ := ⟨_, List.getElem?_eq_getElem bd⟩
      obtain ⟨gg3, oo3, ec3, ea3, hce3, hre3⟩ := h0.elem hx3
      cases ea3
      obtain ⟨rfl, q3_0, q3_1⟩ := open_Start (x0 := x3.1) (x1 := x3.2) hre3
      simp only [inK] at q3_0
      simp only [inK] at q3_1
      refine VD.y rfl rfl (.inl rfl) (.ixI k rfl rfl tsl70 rfl bd) ?_
      refine VD.y rfl rfl (.inl rfl) (.fa rfl tst90 rfl) ?_
      refine VD.y rfl rfl (.inl rfl) (.ld1 0 rfl tk3 rfl (hce3.at1 (j := 0) rfl)) ?_
      refine VD.y rfl rfl (.inl rfl) (.mv rfl) ?_
      refine VD.y rfl rfl (.inl rfl) (.mv rfl) ?_
      obtain ⟨x4, hx4⟩ : ∃ z_, (d1)[k]? = some z_ := ⟨_, List.getElem?_eq_getElem bd⟩
      obtain ⟨gg4, oo4, ec4, ea4, hce4, hre4⟩ := h1.elem hx4
      cases ea4
      obtain ⟨rfl, q4_0, q4_1⟩ := open_Start (x0 := x4.1) (x1 := x4.2) hre4
      simp only [inK] at q4_0
      simp only [inK] at q4_1
      refine VD.y rfl rfl (.inl rfl) (.ixI k rfl rfl tsl70 rfl bd) ?_
      refine VD.y rfl rfl (.inl rfl) (.fa rfl tst90 rfl) ?_
      refine VD.y rfl rfl (.inl rfl) (.ld1 0 rfl tk3 rfl (hce4.at1 (j := 0) rfl)) ?_
      refine VD.y rfl rfl (.inl rfl) (.neq rfl rfl) ?_
      refine VD.y rfl rfl (.inl rfl) (.mv rfl) ?_
      refine VD.dec (s := 28) rfl (fun hc5 => ?_) (fun hc5 => ?_)
      · -- FTT
        refine VD.gn rfl rfl (.inl ⟨_, rfl, rfl⟩) ?_
        refine VD.gn rfl rfl (.inl ⟨_, rfl, rfl⟩) ?_
        refine VD.gn rfl rfl (.inl ⟨_, rfl, rfl⟩) ?_
        refine VD.gn rfl rfl (.inl ⟨_, rfl, rfl⟩) ?_
        refine VD.gn rfl rfl (.inl ⟨_, rfl, rfl⟩) ?_
        refine VD.gn rfl rfl (.inl ⟨_, rfl, rfl⟩) ?_
        refine VD.gn rfl rfl (.inl ⟨_, rfl, rfl⟩) ?_
        refine VD.gn rfl rfl (.inl ⟨_, rfl, rfl⟩) ?_
        refine VD.gn rfl rfl (.inl ⟨_, rfl, rfl⟩) ?_
        refine VD.gn rfl rfl (.inl ⟨_, rfl, rfl⟩) ?_
        refine VD.nil rfl ?_ rfl
        refine VO.gN ?_
        refine VO.y rfl (.pT rfl rfl) ?_
        refine VO.k6 0 1 5 10 14 40 ?_
        refine outN ?_
        refine VC.condT rfl ?_
        refine VC.rs ?_
        refine VO.as ?_
        refine VO.keep [0] [(0, wm W)] (by kernel_rfl) ?_
        refine VO.k7 0 1 4 5 10 14 40 ?_
        refine VC.ret ?_
        refine outBR ?_
        refine outR ?_
        refine outR ?_
        refine outBR ?_
        refine outR ?_
        refine ⟨_, _, res_run (rs := [.tmp 4]) rfl (.tmp rfl .nil), fun W_ hI => out_of (l := []) hI [] rfl rfl (mle_refl _) (fun hS_ => ?_)⟩
        dsimp only [packV]
        all_goals (first | rfl | (simp [get_ne ‹d0[k]? = some _› ‹d1[k]? = some _› (fun e => by have e1 := congrArg Prod.fst e; have e2 := congrArg Prod.snd e; omega)]))
      · -- FTF
        refine VD.y rfl rfl (.inr ⟨_, _, rfl, _, rfl, rfl⟩) (.mv rfl) ?_
        refine VD.y rfl rfl (.inr ⟨_, _, rfl, _, rfl, rfl⟩) (.mv rfl) ?_
        refine VD.y rfl rfl (.inr ⟨_, _, rfl, _, rfl, rfl⟩) (.ixI k rfl rfl tsl70 rfl bd) ?_
        refine VD.y rfl rfl (.inr ⟨_, _, rfl, _, rfl, rfl⟩) (.fa rfl tst90 rfl) ?_
        refine VD.y rfl rfl (.inr ⟨_, _, rfl, _, rfl, rfl⟩) (.ld1 0 rfl tk3 rfl (hce3.at1 (j := 1) rfl)) ?_
        refine VD.y rfl rfl (.inr ⟨_, _, rfl, _, rfl, rfl⟩) (.mv rfl) ?_
        refine VD.y rfl rfl (.inr ⟨_, _, rfl, _, rfl, rfl⟩) (.mv rfl) ?_
        refine VD.y rfl rfl (.inr ⟨_, _, rfl, _, rfl, rfl⟩) (.ixI k rfl rfl tsl70 rfl bd) ?_
        refine VD.y rfl rfl (.inr ⟨_, _, rfl, _, rfl, rfl⟩) (.fa rfl tst90 rfl) ?_
        refine VD.y rfl rfl (.inr ⟨_, _, rfl, _, rfl, rfl⟩) (.ld1 0 rfl tk3 rfl (hce4.at1 (j := 1) rfl)) ?_
        refine VD.nil rfl ?_ rfl
        refine VO.gy rfl ⟨_, rfl, rfl⟩ (.neq rfl rfl) ?_
        refine VO.y rfl (.pF rfl rfl) ?_
        refine VO.k6 0 1 5 10 14 40 ?_
        refine outN ?_
        refine VC.cond rfl (fun hc8 => ?_) (fun hc8 => ?_)
        · -- FTFT
          refine VC.rs ?_
          refine VO.as ?_
          refine VO.keep [0] [(0, wm W)] (by kernel_rfl) ?_
          refine VO.k7 0 1 4 5 10 14 40 ?_
          refine VC.ret ?_
          refine outBR ?_
          refine outR ?_
          refine outR ?_
          refine outBR ?_
          refine outR ?_
          refine ⟨_, _, res_run (rs := [.tmp 4]) rfl (.tmp rfl .nil), fun W_ hI => out_of (l := []) hI [] rfl rfl (mle_refl _) (fun hS_ => ?_)⟩
          dsimp only [packV]
          all_goals (first | rfl | (simp [get_ne ‹d0[k]? = some _› ‹d1[k]? = some _› (fun e => by have e1 := congrArg Prod.fst e; have e2 := congrArg Prod.snd e; omega)]))
        · -- FTFF
          refine VC.skip ?_
          refine outBN ?_
          refine outN ?_
          refine VC.reg ?_
          refine VO.mv ?_
          refine VO.y rfl (.add (c := ((k + 1 : Nat) : Int)) rfl rfl (by omega) ⟨bd, bd⟩) ?_
          refine VO.as ?_
          refine VO.keep [0] [(0, wm W)] (by kernel_rfl) ?_
          refine VO.k6 0 1 5 10 14 40 ?_
          exact outN ⟨k + 1, ⟨by omega, by exact take_next ht ‹d0[k]? = some _› ‹d1[k]? = some _› (Prod.ext (by omega) (by omega))⟩, bd, ⟨⟨rfl, rfl, rfl, rfl, trivial⟩, fun _ h => Inv.sub h [0]⟩⟩
    · -- FF
      refine VC.exit ?_
      refine outE ?_
      refine outE ?_
      refine outBB ?_
      refine outN ?_
      refine VC.rs ?_
      refine VO.as ?_
      refine VO.k6 0 1 4 5 10 14 ?_
      refine VC.ret ?_
      refine ⟨_, _, res_run (rs := [.tmp 4]) rfl (.tmp rfl .nil), fun W_ hI => out_of (l := []) hI [] rfl rfl (mle_refl _) (fun hS_ => ?_)⟩
      dsimp only [packV]
      all_goals (first | rfl | (simp [take_all ht (by omega) (by omega)]))
theorem SameCommit_ok (W : World) {v0 : List Value} {d0 : DCommit} (h0 : Rd TCommit (wm W) v0 d0) {v1 : List Value} {d1 : DCommit} (h1 : Rd TCommit (wm W) v1 d1) : CallR Try.prog 49 [.agg v0.toArray, .agg v1.toArray] W (mnil) (fun v m' => v = .bool (decide (d0 = d1))) := by
  obtain ⟨p0_A2, p0_c2, rfl, p0_0, p0_1, p0_2⟩ := open_Commit (x0 := d0.1) (x1 := d0.2.1) (x2 := d0.2.2) h0
  simp only [inK] at p0_0
  simp only [inK] at p0_1
  have p0_r2 := Rd.room p0_2
  obtain ⟨p1_A2, p1_c2, rfl, p1_0, p1_1, p1_2⟩ := open_Commit (x0 := d1.1) (x1 := d1.2.1) (x2 := d1.2.2) h1
  simp only [inK] at p1_0
  simp only [inK] at p1_1
  have p1_r2 := Rd.room p1_2
  refine CallR.ofA (n := 24) Try.func49 rfl rfl rfl ?_
  refine VC.rs ?_
  refine VO.box (cs := [Value.int .i64 (d0.1), Value.int .i64 (d0.2.1), Value.slice p0_A2 (d0.2.2.length) (p0_c2)]) 102 rfl rfl rfl (fun g1 => ?_)
  refine VO.box (cs := [Value.int .i64 (d1.1), Value.int .i64 (d1.2.1), Value.slice p1_A2 (d1.2.2.length) (p1_c2)]) 104 rfl rfl rfl (fun g3 => ?_)
  refine VO.as ?_
  refine VO.k5 0 1 2 3 4 ?_
  refine VC.rs ?_
  refine VO.y rfl (.fa rfl tst52 rfl) ?_
  refine VO.y rfl (.ld1 102 rfl tk3 rfl (cellsAt_one rfl rfl)) ?_
  refine VO.y rfl (.fa rfl tst52 rfl) ?_
  refine VO.y rfl (.ld1 104 rfl tk3 rfl (cellsAt_one rfl rfl)) ?_
  refine VO.y rfl (.eql rfl rfl) ?_
  refine VO.mv ?_
  refine VO.dec (t := 10) rfl (fun hc5 => ?_) (fun hc5 => ?_)
  · -- T
    refine VO.gy rfl ⟨_, rfl, rfl⟩ (.fa rfl tst52 rfl) ?_
    refine VO.gy rfl ⟨_, rfl, rfl⟩ (.ld1 102 rfl tk3 rfl (cellsAt_one rfl rfl)) ?_
    refine VO.gy rfl ⟨_, rfl, rfl⟩ (.fa rfl tst52 rfl) ?_
    refine VO.gy rfl ⟨_, rfl, rfl⟩ (.ld1 104 rfl tk3 rfl (cellsAt_one rfl rfl)) ?_
    refine VO.gy rfl ⟨_, rfl, rfl⟩ (.eql rfl rfl) ?_
    refine VO.y rfl (.pT rfl rfl) ?_
    refine VO.mv ?_
    refine VO.dec (t := 17) rfl (fun hc6 => ?_) (fun hc6 => ?_)
    · -- TT
      refine VO.gy rfl ⟨_, rfl, rfl⟩ (.fa rfl tst52 rfl) ?_
      refine VO.gy rfl ⟨_, rfl, rfl⟩ (.ld1 102 rfl tk22 rfl (cellsAt_one rfl rfl)) ?_
      refine VO.gy rfl ⟨_, rfl, rfl⟩ (.fa rfl tst52 rfl) ?_
      refine VO.gy rfl ⟨_, rfl, rfl⟩ (.ld1 104 rfl tk22 rfl (cellsAt_one rfl rfl)) ?_
      refine VO.gcallN 107 rfl ⟨_, rfl, rfl⟩ fnOk38 rfl (fun W hW => SameOps_ok W (Rd.mono p0_2 (hW.at (i := 0) rfl)) (Rd.mono p1_2 (hW.at (i := 0) rfl))) (fun v7 m7 hv7 => ?_)
      subst hv7
      refine VO.y rfl (.pT rfl rfl) ?_
      refine VO.as ?_
      refine VO.k5 0 1 2 3 4 ?_
      refine VC.ret ?_
      refine ⟨_, _, res_run (rs := [.tmp 4]) rfl (.tmp rfl .nil), fun W_ hI => out_of (l := []) hI [] rfl rfl (mle_refl _) (fun hS_ => ?_)⟩
      dsimp only [packV]
      all_goals (first | rfl | (first | exact congrArg Value.bool (decide_eq_false (fun e => by subst e; exact absurd rfl ‹¬ _ = _›)).symm | exact congrArg Value.bool (decide_eq_decide.2 ⟨fun h => commit_ext ‹_› ‹_› h, fun e => by rw [e]⟩)))
    · -- TF
      refine VO.gN ?_
      refine VO.gN ?_
      refine VO.gN ?_
      refine VO.gN ?_
      refine VO.gN ?_
      refine VO.y rfl (.pF rfl rfl) ?_
      refine VO.as ?_
      refine VO.k5 0 1 2 3 4 ?_
      refine VC.ret ?_
      refine ⟨_, _, res_run (rs := [.tmp 4]) rfl (.tmp rfl .nil), fun W_ hI => out_of (l := []) hI [] rfl rfl (mle_refl _) (fun hS_ => ?_)⟩
      dsimp only [packV]
      all_goals (first | rfl | (first | exact congrArg Value.bool (decide_eq_false (fun e => by subst e; exact absurd rfl ‹¬ _ = _›)).symm | exact congrArg Value.bool (decide_eq_decide.2 ⟨fun h => commit_ext ‹_› ‹_› h, fun e => by rw [e]⟩)))
  · -- F
    refine VO.gN ?_
    refine VO.gN ?_
    refine VO.gN ?_
    refine VO.gN ?_
    refine VO.gN ?_
    refine VO.y rfl (.pF rfl rfl) ?_
    refine VO.mv ?_
    refine VO.gN ?_
    refine VO.gN ?_
    refine VO.gN ?_
    refine VO.gN ?_
    refine VO.gN ?_
    refine VO.y rfl (.pF rfl rfl) ?_
    refine VO.as ?_
    refine VO.k5 0 1 2 3 4 ?_
    refine VC.ret ?_
    refine ⟨_, _, res_run (rs := [.tmp 4]) rfl (.tmp rfl .nil), fun W_ hI => out_of (l := []) hI [] rfl rfl (mle_refl _) (fun hS_ => ?_)⟩
    dsimp only [packV]
    all_goals (first | rfl | (first | exact congrArg Value.bool (decide_eq_false (fun e => by subst e; exact absurd rfl ‹¬ _ = _›)).symm | exact congrArg Value.bool (decide_eq_decide.2 ⟨fun h => commit_ext ‹_› ‹_› h, fun e => by rw [e]⟩)))
theorem SameCommits_ok (W : World) {v0 : Value} {d0 : List DCommit} (h0 : Rd (.sl TCommit) (wm W) [v0] d0) {v1 : Value} {d1 : List DCommit} (h1 : Rd (.sl TCommit) (wm W) [v1] d1) : CallR Try.prog 69 [v0, v1] W (mnil) (fun v m' => v = .bool (decide (d0 = d1))) := by
  obtain ⟨A0, c0, rfl, l0, k0⟩ := h0.slice
  simp only [maxLen] at k0
  obtain ⟨A1, c1, rfl, l1, k1⟩ := h1.slice
  simp only [maxLen] at k1
  refine CallR.ofA (n := 27) Try.func69 rfl rfl rfl ?_
  refine VC.rs ?_
  refine VO.as ?_
  refine VO.k3 0 1 4 ?_
  refine VC.seq ?_
  refine VC.rs ?_
  refine VO.mv ?_
  refine VO.y rfl (.lenS rfl tsl61) ?_
  refine VO.mv ?_
  refine VO.y rfl (.lenS rfl tsl61) ?_
  refine VO.y rfl (.neq rfl rfl) ?_
  refine VO.k4 0 1 4 10 ?_
  refine VC.cond rfl (fun hc1 => ?_) (fun hc1 => ?_)
  · -- T
    refine VC.rs ?_
    refine VO.as ?_
    refine VO.keep [0] [(0, wm W)] (by kernel_rfl) ?_
    refine VO.k4 0 1 4 10 ?_
    refine VC.ret ?_
    refine outR ?_
    refine ⟨_, _, res_run (rs := [.tmp 4]) rfl (.tmp rfl .nil), fun W_ hI => out_of (l := []) hI [] rfl rfl (mle_refl _) (fun hS_ => ?_)⟩
    dsimp only [packV]
    all_goals (first | rfl | (simp [len_ne hc1]))
  · -- F
    refine VC.skip ?_
    refine outN ?_
    refine VC.seq ?_
    refine VC.rs ?_
    refine VO.as ?_
    refine VO.keep [0] [(0, wm W)] (by kernel_rfl) ?_
    refine VO.k5 0 1 4 5 10 ?_
    refine VC.block ?_
    refine VC.loop (G := Nat) (fun k => [(5, Value.int .i64 (((k : Nat) : Int))), (0, Value.slice A0 (d0.length) (c0)), (1, Value.slice A1 (d1.length) (c1)), (10, Value.bool (decide (¬ ((d0.length : Nat) : Int) = ((d1.length : Nat) : Int))))]) (fun k => [(0, wm W)]) (fun k => (k ≤ d0.length) ∧ (d0.take k = d1.take k)) (fun k => d0.length - k) 0 (⟨by omega, by rfl⟩) ⟨⟨rfl, rfl, rfl, rfl, trivial⟩, fun _ h => h.sub [0]⟩ ?_
    rintro k ⟨hk, ht⟩
    refine VC.seq ?_
    refine VC.rs ?_
    refine VO.mv ?_
    refine VO.mv ?_
    refine VO.y rfl (.lenS rfl tsl61) ?_
    refine VO.y rfl (.lss rfl rfl) ?_
    refine VO.k5 0 1 5 10 14 ?_
    refine VC.cond rfl (fun hc2 => ?_) (fun hc2 => ?_)
    · -- FT
      refine VC.skip ?_
      refine outN ?_
      refine VC.seq ?_
      refine VC.block ?_
      refine VC.seq ?_
      refine VC.regD _ 8 [(0, true), (1, true), (2, true), (3, true), (4, true), (5, true), (6, true), (7, true)] follows (by kernel_rfl) (fun _ h => h.sub [0]) ?_
      refine VD.y rfl rfl (.inl rfl) (.mv rfl) ?_
      refine VD.y rfl rfl (.inl rfl) (.mv rfl) ?_
      obtain ⟨x3, hx3⟩ : ∃ z_, (d0)[k]? = some z_ := ⟨_, List.getElem?_eq_getElem bd⟩
      obtain ⟨gg3, oo3, ec3, ea3, hce3, hre3⟩ := h0.elem hx3
      cases ea3
      obtain ⟨q3_A2, q3_c2, rfl, q3_0, q3_1, q3_2⟩ := open_Commit (x0 := x3.1) (x1 := x3.2.1) (x2 := x3.2.2) hre3
      simp only [inK] at q3_0
      simp only [inK] at q3_1
      have q3_r2 := Rd.room q3_2
      refine VD.y rfl rfl (.inl rfl) (.ixI k rfl rfl tsl61 rfl bd) ?_
      refine VD.y rfl rfl (.inl rfl) (.ldA 0 rfl tk52 rfl hce3) ?_
      refine VD.y rfl rfl (.inl rfl) (.mv rfl) ?_
      refine VD.y rfl rfl (.inl rfl) (.mv rfl) ?_
      obtain ⟨x4, hx4⟩ : ∃ z_, (d1)[k]? = some z_ := ⟨_, List.getElem?_eq_getElem bd⟩
      obtain ⟨gg4, oo4, ec4, ea4, hce4, hre4⟩ := h1.elem hx4
      cases ea4
      obtain ⟨q4_A2, q4_c2, rfl, q4_0, q4_1, q4_2⟩ := open_Commit (x0 := x4.1) (x1 := x4.2.1) (x2 := x4.2.2) hre4
      simp only [inK] at q4_0
      simp only [inK] at q4_1
      have q4_r2 := Rd.room q4_2
      refine VD.y rfl rfl (.inl rfl) (.ixI k rfl rfl tsl61 rfl bd) ?_
      refine VD.y rfl rfl (.inl rfl) (.ldA 0 rfl tk52 rfl hce4) ?_
      refine VD.nil rfl ?_ rfl
      refine VO.callN 105 rfl fnOk49 rfl (fun W hW => SameCommit_ok W (Rd.mono hre3 (hW.at (i := 0) rfl)) (Rd.mono hre4 (hW.at (i := 0) rfl))) (fun v5 m5 hv5 => ?_)
      subst hv5
      refine VO.y rfl (.notD rfl) ?_
      refine VO.k6 0 1 5 10 14 26 ?_
      refine outN ?_
      refine VC.cond rfl (fun hc6 => ?_) (fun hc6 => ?_)
      · -- FTT
        refine VC.rs ?_
        refine VO.as ?_
        refine VO.keep [0] [(0, wm W)] (by kernel_rfl) ?_
        refine VO.k7 0 1 4 5 10 14 26 ?_
        refine VC.ret ?_
        refine outBR ?_
        refine outR ?_
        refine outR ?_
        refine outBR ?_
        refine outR ?_
        refine ⟨_, _, res_run (rs := [.tmp 4]) rfl (.tmp rfl .nil), fun W_ hI => out_of (l := []) hI [] rfl rfl (mle_refl _) (fun hS_ => ?_)⟩
        dsimp only [packV]
        all_goals (first | rfl | (simp [get_ne ‹d0[k]? = some _› ‹d1[k]? = some _› (‹¬ _ = _›)]))
      · -- FTF
        refine VC.skip ?_
        refine outBN ?_
        refine outN ?_
        refine VC.reg ?_
        refine VO.mv ?_
        refine VO.y rfl (.add (c := ((k + 1 : Nat) : Int)) rfl rfl (by omega) ⟨bd, bd⟩) ?_
        refine VO.as ?_
        refine VO.keep [0] [(0, wm W)] (by kernel_rfl) ?_
        refine VO.k6 0 1 5 10 14 26 ?_
        exact outN ⟨k + 1, ⟨by omega, by exact take_next ht ‹d0[k]? = some _› ‹d1[k]? = some _› (Decidable.not_not.1 ‹¬ ¬ _ = _›)⟩, bd, ⟨⟨rfl, rfl, rfl, rfl, trivial⟩, fun _ h => Inv.sub h [0]⟩⟩
    · -- FF
      refine VC.exit ?_
      refine outE ?_
      refine outE ?_
      refine outBB ?_
      refine outN ?_
      refine VC.rs ?_
      refine VO.as ?_
      refine VO.k6 0 1 4 5 10 14 ?_
      refine VC.ret ?_
      refine ⟨_, _, res_run (rs := [.tmp 4]) rfl (.tmp rfl .nil), fun W_ hI => out_of (l := []) hI [] rfl rfl (mle_refl _) (fun hS_ => ?_)⟩
      dsimp only [packV]
      all_goals (first | rfl | (simp [take_all ht (by omega) (by omega)]))
theorem SameMessage_ok (W : World) {v0 : List Value} {d0 : DMessage} (h0 : Rd TMessage (wm W) v0 d0) {v1 : List Value} {d1 : DMessage} (h1 : Rd TMessage (wm W) v1 d1) : CallR Try.prog 71 [.agg v0.toArray, .agg v1.toArray] W (mnil) (fun v m' => v = .bool (decide (d0 = d1))) := by
  obtain ⟨p0_A4, p0_c4, p0_A7, p0_c7, rfl, p0_0, p0_1, p0_2, p0_3, p0_4, p0_5, p0_6, p0_7⟩ := open_Message (x0 := d0.1) (x1 := d0.2.1) (x2 := d0.2.2.1) (x3 := d0.2.2.2.1) (x4 := d0.2.2.2.2.1) (x5 := d0.2.2.2.2.2.1) (x6 := d0.2.2.2.2.2.2.1) (x7 := d0.2.2.2.2.2.2.2) h0
  simp only [inK] at p0_0
  simp only [inK] at p0_1
  simp only [inK] at p0_2
  simp only [inK] at p0_3
  have p0_r4 := Rd.room p0_4
  simp only [inK] at p0_5
  simp only [inK] at p0_6
  have p0_r7 := Rd.room p0_7
  obtain ⟨p1_A4, p1_c4, p1_A7, p1_c7, rfl, p1_0, p1_1, p1_2, p1_3, p1_4, p1_5, p1_6, p1_7⟩ := open_Message (x0 := d1.1) (x1 := d1.2.1) (x2 := d1.2.2.1) (x3 := d1.2.2.2.1) (x4 := d1.2.2.2.2.1) (x5 := d1.2.2.2.2.2.1) (x6 := d1.2.2.2.2.2.2.1) (x7 := d1.2.2.2.2.2.2.2) h1
  simp only [inK] at p1_0
  simp only [inK] at p1_1
  simp only [inK] at p1_2
  simp only [inK] at p1_3
  have p1_r4 := Rd.room p1_4
  simp only [inK] at p1_5
  simp only [inK] at p1_6
  have p1_r7 := Rd.room p1_7
  refine CallR.ofA (n := 59) Try.func71 rfl rfl rfl ?_
  refine VC.rs ?_
  refine VO.box (cs := [Value.int .i64 (d0.1), Value.int .i64 (d0.2.1), Value.int .u8 (d0.2.2.1), Value.int .i64 (d0.2.2.2.1), Value.slice p0_A4 (d0.2.2.2.2.1.length) (p0_c4), Value.int .i64 (d0.2.2.2.2.2.1), Value.int .i64 (d0.2.2.2.2.2.2.1), Value.slice p0_A7 (d0.2.2.2.2.2.2.2.length) (p0_c7)]) 102 rfl rfl rfl (fun g1 => ?_)
  refine VO.box (cs := [Value.int .i64 (d1.1), Value.int .i64 (d1.2.1), Value.int .u8 (d1.2.2.1), Value.int .i64 (d1.2.2.2.1), Value.slice p1_A4 (d1.2.2.2.2.1.length) (p1_c4), Value.int .i64 (d1.2.2.2.2.2.1), Value.int .i64 (d1.2.2.2.2.2.2.1), Value.slice p1_A7 (d1.2.2.2.2.2.2.2.length) (p1_c7)]) 104 rfl rfl rfl (fun g3 => ?_)
  refine VO.as ?_
  refine VO.k5 0 1 2 3 4 ?_
  refine VC.rs ?_
  refine VO.y rfl (.fa rfl tst72 rfl) ?_
  refine VO.y rfl (.ld1 102 rfl tk3 rfl (cellsAt_one rfl rfl)) ?_
  refine VO.y rfl (.fa rfl tst72 rfl) ?_
  refine VO.y rfl (.ld1 104 rfl tk3 rfl (cellsAt_one rfl rfl)) ?_
  refine VO.y rfl (.eql rfl rfl) ?_
  refine VO.mv ?_
  refine VO.dec (t := 10) rfl (fun hc5 => ?_) (fun hc5 => ?_)
  · -- T
    refine VO.gy rfl ⟨_, rfl, rfl⟩ (.fa rfl tst72 rfl) ?_
    refine VO.gy rfl ⟨_, rfl, rfl⟩ (.ld1 102 rfl tk3 rfl (cellsAt_one rfl rfl)) ?_
    refine VO.gy rfl ⟨_, rfl, rfl⟩ (.fa rfl tst72 rfl) ?_
    refine VO.gy rfl ⟨_, rfl, rfl⟩ (.ld1 104 rfl tk3 rfl (cellsAt_one rfl rfl)) ?_
    refine VO.gy rfl ⟨_, rfl, rfl⟩ (.eql rfl rfl) ?_
    refine VO.y rfl (.pT rfl rfl) ?_
    refine VO.mv ?_
    refine VO.dec (t := 17) rfl (fun hc6 => ?_) (fun hc6 => ?_)
    · -- TT
      refine VO.gy rfl ⟨_, rfl, rfl⟩ (.fa rfl tst72 rfl) ?_
      refine VO.gy rfl ⟨_, rfl, rfl⟩ (.ld1 102 rfl tk69 rfl (cellsAt_one rfl rfl)) ?_
      refine VO.gy rfl ⟨_, rfl, rfl⟩ (.fa rfl tst72 rfl) ?_
      refine VO.gy rfl ⟨_, rfl, rfl⟩ (.ld1 104 rfl tk69 rfl (cellsAt_one rfl rfl)) ?_
      refine VO.gy rfl ⟨_, rfl, rfl⟩ (.eql rfl rfl) ?_
      refine VO.y rfl (.pT rfl rfl) ?_
      refine VO.mv ?_
      refine VO.dec (t := 24) rfl (fun hc7 => ?_) (fun hc7 => ?_)
      · -- TTT
        refine VO.gy rfl ⟨_, rfl, rfl⟩ (.fa rfl tst72 rfl) ?_
        refine VO.gy rfl ⟨_, rfl, rfl⟩ (.ld1 102 rfl tk3 rfl (cellsAt_one rfl rfl)) ?_
        refine VO.gy rfl ⟨_, rfl, rfl⟩ (.fa rfl tst72 rfl) ?_
        refine VO.gy rfl ⟨_, rfl, rfl⟩ (.ld1 104 rfl tk3 rfl (cellsAt_one rfl rfl)) ?_
        refine VO.gy rfl ⟨_, rfl, rfl⟩ (.eql rfl rfl) ?_
        refine VO.y rfl (.pT rfl rfl) ?_
        refine VO.mv ?_
        refine VO.dec (t := 31) rfl (fun hc8 => ?_) (fun hc8 => ?_)
        · -- TTTT
          refine VO.gy rfl ⟨_, rfl, rfl⟩ (.fa rfl tst72 rfl) ?_
          refine VO.gy rfl ⟨_, rfl, rfl⟩ (.ld1 102 rfl tk70 rfl (cellsAt_one rfl rfl)) ?_
          refine VO.gy rfl ⟨_, rfl, rfl⟩ (.fa rfl tst72 rfl) ?_
          refine VO.gy rfl ⟨_, rfl, rfl⟩ (.ld1 104 rfl tk70 rfl (cellsAt_one rfl rfl)) ?_
          refine VO.gcallN 109 rfl ⟨_, rfl, rfl⟩ fnOk113 rfl (fun W hW => SameStarts_ok W (Rd.mono p0_4 (hW.at (i := 0) rfl)) (Rd.mono p1_4 (hW.at (i := 0) rfl))) (fun v9 m9 hv9 => ?_)
          subst hv9
          refine VO.y rfl (.pT rfl rfl) ?_
          refine VO.mv ?_
          refine VO.dec (t := 38) rfl (fun hc10 => ?_) (fun hc10 => ?_)
          · -- TTTTT
            refine VO.gy rfl ⟨_, rfl, rfl⟩ (.fa rfl tst72 rfl) ?_
            refine VO.gy rfl ⟨_, rfl, rfl⟩ (.ld1 102 rfl tk3 rfl (cellsAt_one rfl rfl)) ?_
            refine VO.gy rfl ⟨_, rfl, rfl⟩ (.fa rfl tst72 rfl) ?_
            refine VO.gy rfl ⟨_, rfl, rfl⟩ (.ld1 104 rfl tk3 rfl (cellsAt_one rfl rfl)) ?_
            refine VO.gy rfl ⟨_, rfl, rfl⟩ (.eql rfl rfl) ?_
            refine VO.y rfl (.pT rfl rfl) ?_
            refine VO.mv ?_
            refine VO.dec (t := 45) rfl (fun hc11 => ?_) (fun hc11 => ?_)
            · -- TTTTTT
              refine VO.gy rfl ⟨_, rfl, rfl⟩ (.fa rfl tst72 rfl) ?_
              refine VO.gy rfl ⟨_, rfl, rfl⟩ (.ld1 102 rfl tk3 rfl (cellsAt_one rfl rfl)) ?_
              refine VO.gy rfl ⟨_, rfl, rfl⟩ (.fa rfl tst72 rfl) ?_
              refine VO.gy rfl ⟨_, rfl, rfl⟩ (.ld1 104 rfl tk3 rfl (cellsAt_one rfl rfl)) ?_
              refine VO.gy rfl ⟨_, rfl, rfl⟩ (.eql rfl rfl) ?_
              refine VO.y rfl (.pT rfl rfl) ?_
              refine VO.mv ?_
              refine VO.dec (t := 52) rfl (fun hc12 => ?_) (fun hc12 => ?_)
              · -- TTTTTTT
                refine VO.gy rfl ⟨_, rfl, rfl⟩ (.fa rfl tst72 rfl) ?_
                refine VO.gy rfl ⟨_, rfl, rfl⟩ (.ld1 102 rfl tk61 rfl (cellsAt_one rfl rfl)) ?_
                refine VO.gy rfl ⟨_, rfl, rfl⟩ (.fa rfl tst72 rfl) ?_
                refine VO.gy rfl ⟨_, rfl, rfl⟩ (.ld1 104 rfl tk61 rfl (cellsAt_one rfl rfl)) ?_
                refine VO.gcallN 113 rfl ⟨_, rfl, rfl⟩ fnOk69 rfl (fun W hW => SameCommits_ok W (Rd.mono p0_7 (hW.at (i := 0) rfl)) (Rd.mono p1_7 (hW.at (i := 0) rfl))) (fun v13 m13 hv13 => ?_)
                subst hv13
                refine VO.y rfl (.pT rfl rfl) ?_
                refine VO.as ?_
                refine VO.k5 0 1 2 3 4 ?_
                refine VC.ret ?_
                refine ⟨_, _, res_run (rs := [.tmp 4]) rfl (.tmp rfl .nil), fun W_ hI => out_of (l := []) hI [] rfl rfl (mle_refl _) (fun hS_ => ?_)⟩
                dsimp only [packV]
                all_goals (first | rfl | (first | exact congrArg Value.bool (decide_eq_false (fun e => by subst e; exact absurd rfl ‹¬ _ = _›)).symm | exact congrArg Value.bool (decide_eq_decide.2 ⟨fun h => message_ext ‹_› ‹_› ‹_› ‹_› ‹_› ‹_› ‹_› h, fun e => by rw [e]⟩)))
              · -- TTTTTTF
                refine VO.gN ?_
                refine VO.gN ?_
                refine VO.gN ?_
                refine VO.gN ?_
                refine VO.gN ?_
                refine VO.y rfl (.pF rfl rfl) ?_
                refine VO.as ?_
                refine VO.k5 0 1 2 3 4 ?_
                refine VC.ret ?_
                refine ⟨_, _, res_run (rs := [.tmp 4]) rfl (.tmp rfl .nil), fun W_ hI => out_of (l := []) hI [] rfl rfl (mle_refl _) (fun hS_ => ?_)⟩
                dsimp only [packV]
                all_goals (first | rfl | (first | exact congrArg Value.bool (decide_eq_false (fun e => by subst e; exact absurd rfl ‹¬ _ = _›)).symm | exact congrArg Value.bool (decide_eq_decide.2 ⟨fun h => message_ext ‹_› ‹_› ‹_› ‹_› ‹_› ‹_› ‹_› h, fun e => by rw [e]⟩)))
            · -- TTTTTF
              refine VO.gN ?_
              refine VO.gN ?_
              refine VO.gN ?_
              refine VO.gN ?_
              refine VO.gN ?_
              refine VO.y rfl (.pF rfl rfl) ?_
              refine VO.mv ?_
              refine VO.gN ?_
              refine VO.gN ?_
              refine VO.gN ?_
              refine VO.gN ?_
              refine VO.gN ?_
              refine VO.y rfl (.pF rfl rfl) ?_
              refine VO.as ?_
              refine VO.k5 0 1 2 3 4 ?_
              refine VC.ret ?_
              refine ⟨_, _, res_run (rs := [.tmp 4]) rfl (.tmp rfl .nil), fun W_ hI => out_of (l := []) hI [] rfl rfl (mle_refl _) (fun hS_ => ?_)⟩
              dsimp only [packV]
              all_goals (first | rfl | (first | exact congrArg Value.bool (decide_eq_false (fun e => by subst e; exact absurd rfl ‹¬ _ = _›)).symm | exact congrArg Value.bool (decide_eq_decide.2 ⟨fun h => message_ext ‹_› ‹_› ‹_› ‹_› ‹_› ‹_› ‹_› h, fun e => by rw [e]⟩)))
          · -- TTTTF
            refine VO.gN ?_
            refine VO.gN ?_
            refine VO.gN ?_
            refine VO.gN ?_
            refine VO.gN ?_
            refine VO.y rfl (.pF rfl rfl) ?_
            refine VO.mv ?_
            refine VO.gN ?_
            refine VO.gN ?_
            refine VO.gN ?_
            refine VO.gN ?_
            refine VO.gN ?_
            refine VO.y rfl (.pF rfl rfl) ?_
            refine VO.mv ?_
            refine VO.gN ?_
            refine VO.gN ?_
            refine VO.gN ?_
            refine VO.gN ?_
            refine VO.gN ?_
            refine VO.y rfl (.pF rfl rfl) ?_
            refine VO.as ?_
            refine VO.k5 0 1 2 3 4 ?_
            refine VC.ret ?_
            refine ⟨_, _, res_run (rs := [.tmp 4]) rfl (.tmp rfl .nil), fun W_ hI => out_of (l := []) hI [] rfl rfl (mle_refl _) (fun hS_ => ?_)⟩
            dsimp only [packV]
            all_goals (first | rfl | (first | exact congrArg Value.bool (decide_eq_false (fun e => by subst e; exact absurd rfl ‹¬ _ = _›)).symm | exact congrArg Value.bool (decide_eq_decide.2 ⟨fun h => message_ext ‹_› ‹_› ‹_› ‹_› ‹_› ‹_› ‹_› h, fun e => by rw [e]⟩)))
        · -- TTTF
          refine VO.gN ?_
          refine VO.gN ?_
          refine VO.gN ?_
          refine VO.gN ?_
          refine VO.gN ?_
          refine VO.y rfl (.pF rfl rfl) ?_
          refine VO.mv ?_
          refine VO.gN ?_
          refine VO.gN ?_
          refine VO.gN ?_
          refine VO.gN ?_
          refine VO.gN ?_
          refine VO.y rfl (.pF rfl rfl) ?_
          refine VO.mv ?_
          refine VO.gN ?_
          refine VO.gN ?_
          refine VO.gN ?_
          refine VO.gN ?_
          refine VO.gN ?_
          refine VO.y rfl (.pF rfl rfl) ?_
          refine VO.mv ?_
          refine VO.gN ?_
          refine VO.gN ?_
          refine VO.gN ?_
          refine VO.gN ?_
          refine VO.gN ?_
          refine VO.y rfl (.pF rfl rfl) ?_
          refine VO.as ?_
          refine VO.k5 0 1 2 3 4 ?_
          refine VC.ret ?_
          refine ⟨_, _, res_run (rs := [.tmp 4]) rfl (.tmp rfl .nil), fun W_ hI => out_of (l := []) hI [] rfl rfl (mle_refl _) (fun hS_ => ?_)⟩
          dsimp only [packV]
          all_goals (first | rfl | (first | exact congrArg Value.bool (decide_eq_false (fun e => by subst e; exact absurd rfl ‹¬ _ = _›)).symm | exact congrArg Value.bool (decide_eq_decide.2 ⟨fun h => message_ext ‹_› ‹_› ‹_› ‹_› ‹_› ‹_› ‹_› h, fun e => by rw [e]⟩)))
      · -- TTF
        refine VO.gN ?_
        refine VO.gN ?_
        refine VO.gN ?_
        refine VO.gN ?_
        refine VO.gN ?_
        refine VO.y rfl (.pF rfl rfl) ?_
        refine VO.mv ?_
        refine VO.gN ?_
        refine VO.gN ?_
        refine VO.gN ?_
        refine VO.gN ?_
        refine VO.gN ?_
        refine VO.y rfl (.pF rfl rfl) ?_
        refine VO.mv ?_
        refine VO.gN ?_
        refine VO.gN ?_
        refine VO.gN ?_
        refine VO.gN ?_
        refine VO.gN ?_
        refine VO.y rfl (.pF rfl rfl) ?_
        refine VO.mv ?_
        refine VO.gN ?_
        refine VO.gN ?_
        refine VO.gN ?_
        refine VO.gN ?_
        refine VO.gN ?_
        refine VO.y rfl (.pF rfl rfl) ?_
        refine VO.mv ?_
        refine VO.gN ?_
        refine VO.gN ?_
        refine VO.gN ?_
        refine VO.gN ?_
        refine VO.gN ?_
        refine VO.y rfl (.pF rfl rfl) ?_
        refine VO.as ?_
        refine VO.k5 0 1 2 3 4 ?_
        refine VC.ret ?_
        refine ⟨_, _, res_run (rs := [.tmp 4]) rfl (.tmp rfl .nil), fun W_ hI => out_of (l := []) hI [] rfl rfl (mle_refl _) (fun hS_ => ?_)⟩
        dsimp only [packV]
        all_goals (first | rfl | (first | exact congrArg Value.bool (decide_eq_false (fun e => by subst e; exact absurd rfl ‹¬ _ = _›)).symm | exact congrArg Value.bool (decide_eq_decide.2 ⟨fun h => message_ext ‹_› ‹_› ‹_› ‹_› ‹_› ‹_› ‹_› h, fun e => by rw [e]⟩)))
    · -- TF
      refine VO.gN ?_
      refine VO.gN ?_
      refine VO.gN ?_
      refine VO.gN ?_
      refine VO.gN ?_
      refine VO.y rfl (.pF rfl rfl) ?_
      refine VO.mv ?_
      refine VO.gN ?_
      refine VO.gN ?_
      refine VO.gN ?_
      refine VO.gN ?_
      refine VO.gN ?_
      refine VO.y rfl (.pF rfl rfl) ?_
      refine VO.mv ?_
      refine VO.gN ?_
      refine VO.gN ?_
      refine VO.gN ?_
      refine VO.gN ?_
      refine VO.gN ?_
      refine VO.y rfl (.pF rfl rfl) ?_
      refine VO.mv ?_
      refine VO.gN ?_
      refine VO.gN ?_
      refine VO.gN ?_
      refine VO.gN ?_
      refine VO.gN ?_
      refine VO.y rfl (.pF rfl rfl) ?_
      refine VO.mv ?_
      refine VO.gN ?_
      refine VO.gN ?_
      refine VO.gN ?_
      refine VO.gN ?_
      refine VO.gN ?_
      refine VO.y rfl (.pF rfl rfl) ?_
      refine VO.mv ?_
      refine VO.gN ?_
      refine VO.gN ?_
      refine VO.gN ?_
      refine VO.gN ?_
      refine VO.gN ?_
      refine VO.y rfl (.pF rfl rfl) ?_
      refine VO.as ?_
      refine VO.k5 0 1 2 3 4 ?_
      refine VC.ret ?_
      refine ⟨_, _, res_run (rs := [.tmp 4]) rfl (.tmp rfl .nil), fun W_ hI => out_of (l := []) hI [] rfl rfl (mle_refl _) (fun hS_ => ?_)⟩
      dsimp only [packV]
      all_goals (first | rfl | (first | exact congrArg Value.bool (decide_eq_false (fun e => by subst e; exact absurd rfl ‹¬ _ = _›)).symm | exact congrArg Value.bool (decide_eq_decide.2 ⟨fun h => message_ext ‹_› ‹_› ‹_› ‹_› ‹_› ‹_› ‹_› h, fun e => by rw [e]⟩)))
  · -- F
    refine VO.gN ?_
    refine VO.gN ?_
    refine VO.gN ?_
    refine VO.gN ?_
    refine VO.gN ?_
    refine VO.y rfl (.pF rfl rfl) ?_
    refine VO.mv ?_
    refine VO.gN ?_
    refine VO.gN ?_
    refine VO.gN ?_
    refine VO.gN ?_
    refine VO.gN ?_
    refine VO.y rfl (.pF rfl rfl) ?_
    refine VO.mv ?_
    refine VO.gN ?_
    refine VO.gN ?_
    refine VO.gN ?_
    refine VO.gN ?_
    refine VO.gN ?_
    refine VO.y rfl (.pF rfl rfl) ?_
    refine VO.mv ?_
    refine VO.gN ?_
    refine VO.gN ?_
    refine VO.gN ?_
    refine VO.gN ?_
    refine VO.gN ?_
    refine VO.y rfl (.pF rfl rfl) ?_
    refine VO.mv ?_
    refine VO.gN ?_
    refine VO.gN ?_
    refine VO.gN ?_
    refine VO.gN ?_
    refine VO.gN ?_
    refine VO.y rfl (.pF rfl rfl) ?_
    refine VO.mv ?_
    refine VO.gN ?_
    refine VO.gN ?_
    refine VO.gN ?_
    refine VO.gN ?_
    refine VO.gN ?_
    refine VO.y rfl (.pF rfl rfl) ?_
    refine VO.mv ?_
    refine VO.gN ?_
    refine VO.gN ?_
    refine VO.gN ?_
    refine VO.gN ?_
    refine VO.gN ?_
    refine VO.y rfl (.pF rfl rfl) ?_
    refine VO.as ?_
    refine VO.k5 0 1 2 3 4 ?_
    refine VC.ret ?_
    refine ⟨_, _, res_run (rs := [.tmp 4]) rfl (.tmp rfl .nil), fun W_ hI => out_of (l := []) hI [] rfl rfl (mle_refl _) (fun hS_ => ?_)⟩
    dsimp only [packV]
    all_goals (first | rfl | (first | exact congrArg Value.bool (decide_eq_false (fun e => by subst e; exact absurd rfl ‹¬ _ = _›)).symm | exact congrArg Value.bool (decide_eq_decide.2 ⟨fun h => message_ext ‹_› ‹_› ‹_› ‹_› ‹_› ‹_› ‹_› h, fun e => by rw [e]⟩)))
end
section
set_option linter.unusedVariables false
def sGo (en : Int) : Int → Int → Nat → List DStart → Prop
  | _, _, _, [] => True
  | le, lf, i, s :: r => le < s.1 ∧ s.1 ≤ 1048576 ∧ lf < s.2 ∧ s.2 ≤ en ∧ (i = 0 → s.2 = 1) ∧ sGo en s.1 s.2 (i + 1) r
instance decGo (en : Int) : ∀ (le lf : Int) (i : Nat) (l : List DStart), Decidable (sGo en le lf i l)
  | _, _, _, [] => isTrue trivial
  | le, lf, i, s :: r => by
    have := decGo en s.1 s.2 (i + 1) r
    unfold sGo; infer_instance
def sCheck (l : List DStart) (en : Int) : Int := if 0 ≤ en ∧ en ≤ 1048576 ∧ ((l.length : Int) = 0 ↔ en = 0) ∧ sGo en 0 0 0 l then 0 else 5
def bareM (m : DMessage) : Prop := m.2.2.1 = 0 ∧ m.2.2.2.1 = 0 ∧ m.2.2.2.2.1.length = 0 ∧ m.2.2.2.2.2.1 = 0 ∧ m.2.2.2.2.2.2.1 = 0 ∧ m.2.2.2.2.2.2.2.length = 0
instance (m : DMessage) : Decidable (bareM m) := by unfold bareM; infer_instance
def lastOk (l : List DStart) (e : Int) : Bool := match l.getLast? with
  | some s => decide (s.1 ≤ e)
  | none => true
def helloM (m : DMessage) : Prop := (1 ≤ m.2.2.1 ∧ m.2.2.1 ≤ 3) ∧ sCheck m.2.2.2.2.1 m.2.2.2.1 = 0 ∧ lastOk m.2.2.2.2.1 m.2.1 = true ∧ m.2.2.2.2.2.1 = 0 ∧ m.2.2.2.2.2.2.1 = 0 ∧ m.2.2.2.2.2.2.2.length = 0
instance (m : DMessage) : Decidable (helloM m) := by unfold helloM; infer_instance
def shipM (m : DMessage) : Prop := (1 ≤ m.2.2.2.2.2.1 ∧ m.2.2.2.2.2.1 ≤ 1048576) ∧ (0 ≤ m.2.2.2.2.2.2.1 ∧ m.2.2.2.2.2.2.1 ≤ m.2.1) ∧ (m.2.2.2.2.2.2.1 = 0 ↔ m.2.2.2.2.2.1 = 1) ∧ m.2.2.2.2.2.2.2.length ≤ 4 ∧
  (cFollows m.2.2.2.2.2.2.1 (m.2.2.2.2.2.1 - 1) m.2.2.2.2.2.2.2).1 = 0 ∧ (∀ c ∈ m.2.2.2.2.2.2.2, c.1 ≤ m.2.1) ∧ m.2.2.1 = 0 ∧ m.2.2.2.1 = 0 ∧ m.2.2.2.2.1.length = 0
instance (m : DMessage) : Decidable (shipM m) := by unfold shipM; infer_instance
def ackM (m : DMessage) : Prop := (0 ≤ m.2.2.2.1 ∧ m.2.2.2.1 ≤ 1048576) ∧ m.2.2.1 = 0 ∧ m.2.2.2.2.1.length = 0 ∧ m.2.2.2.2.2.1 = 0 ∧ m.2.2.2.2.2.2.1 = 0 ∧ m.2.2.2.2.2.2.2.length = 0
instance (m : DMessage) : Decidable (ackM m) := by unfold ackM; infer_instance
end
section
set_option linter.unusedVariables false
set_option linter.unusedSimpArgs false
set_option maxRecDepth 4000
theorem fnOk60 : fnOk Try.prog 60 = true := by kernel_rfl
theorem next_ok (W : World) (d0 : Int) (h0 : inK .i64 d0) {v1 : Value} {d1 : List DCommit} (h1 : Rd (.sl TCommit) (wm W) [v1] d1) (d2 : Int) (h2 : inK .i64 d2) : CallR Try.prog 65 [.int .i64 d0, v1, .int .i64 d2] W (mnil) (fun v m' => ∃ (s0 : List Value), v = .tuple #[.agg s0.toArray, .int .i64 ((shipNext d0 d1 d2).2)] ∧ Ow TMessage m' s0 ((shipNext d0 d1 d2).1)) := by
  have h0' := h0; simp only [inK] at h0'
  obtain ⟨A1, c1, rfl, l1, k1⟩ := h1.slice
  simp only [maxLen] at k1
  have h2' := h2; simp only [inK] at h2'
  refine CallR.ofA (n := 67) Try.func65 rfl rfl rfl ?_
  refine VC.rs ?_
  refine VO.alloc 102 rfl tz72 (fun g1 => ?_)
  refine VO.as ?_
  refine VO.k5 0 1 2 6 7 ?_
  refine VC.seq ?_
  refine VC.rs ?_
  refine VO.mv ?_
  refine VO.mv ?_
  refine VO.callN 103 rfl fnOk112 rfl (fun W hW => wrong_ok W d0 (by simp only [inK]; (first | omega | (simp only [List.length_append, List.length_nil, List.length_cons, List.length_take, List.length_drop] at *; omega) | (have := wrong_len ‹¬ ¬ shipWrong d0 d1 = 0›; omega) | exact next_room ‹¬ ¬ shipWrong d0 d1 = 0› ‹_›)) (Rd.mono h1 (hW.at (i := 0) rfl))) (fun v3 m3 hv3 => ?_)
  subst hv3
  have hfa4 := shipWrong_range d0 d1
  refine VO.as ?_
  refine VO.k6 0 1 2 6 7 8 ?_
  refine VC.rs ?_
  refine VO.mv ?_
  refine VO.y rfl (.neq rfl rfl) ?_
  refine VO.keep [102, 0] [(102, mone g1 (.cells [Value.int .i64 (0), Value.int .i64 (0), Value.int .u8 (0), Value.int .i64 (0), Value.slice none (0) (0), Value.int .i64 (0), Value.int .i64 (0), Value.slice none (0) (0)].toArray 72 (0, 0))), (0, wm W)] (by kernel_rfl) ?_
  refine VO.k7 0 1 2 6 7 8 16 ?_
  refine VC.cond rfl (fun hc5 => ?_) (fun hc5 => ?_)
  · -- T
    refine VC.rs ?_
    refine VO.y rfl (.bst (cs := [Value.int .i64 (0), Value.int .i64 (0), Value.int .u8 (0), Value.int .i64 (0), Value.slice none (0) (0), Value.int .i64 (0), Value.int .i64 (0), Value.slice none (0) (0)]) rfl tst72 tz72 rfl) ?_
    refine VO.mv ?_
    refine VO.store (k := 8) (c' := [Value.int .i64 (0), Value.int .i64 (0), Value.int .u8 (0), Value.int .i64 (0), Value.slice none (0) (0), Value.int .i64 (0), Value.int .i64 (0), Value.slice none (0) (0)]) 102 rfl rfl (.inl tk72) rfl rfl rfl rfl rfl ?_
    refine VO.as ?_
    refine VO.k7 0 1 2 6 7 8 16 ?_
    refine VC.ret ?_
    refine outR ?_
    refine ⟨_, _, res_run (rs := [.cell 6 72, .tmp 7]) rfl (.agg 102 rfl tk72 rfl ⟨_, _, _, mone_self _ _, Nat.le_of_ble_eq_true rfl, rfl⟩ (.tmp rfl .nil)), fun W_ hI => out_of (l := []) hI [] rfl rfl (mle_refl _) (fun hS_ => ?_)⟩
    dsimp only [packV]
    have he0 : ((shipNext d0 d1 d2).1 : Ty.Den TMessage) = (0, 0, 0, 0, [], 0, 0, []) := by first | rfl | (first | (rw [next_wrong ‹_›]; rfl) | (rw [next_arg ‹¬ ¬ _› (by omega)]; rfl) | (have hcs2 := hcs.trans ((List.take_of_length_le (by omega)).trans (next_list _ _ ‹_› ‹_›)); rw [next_good ‹¬ ¬ _› ‹_› ‹_› ‹_›, ← hcs2]; first | rw [prevOf_pos ‹0 < d2› ‹_›] | rw [prevOf_zero ‹_›]))
    refine ⟨[Value.int .i64 (0), Value.int .i64 (0), Value.int .u8 (0), Value.int .i64 (0), Value.slice none (0) (0), Value.int .i64 (0), Value.int .i64 (0), Value.slice none (0) (0)], ?_, ?_⟩
    rotate_left
    · rw [he0]; exact (mkO_Message 0 0 0 0 [] 0 0 [] (Seps.nilAt 1 (Seps.nilAt 0 hS_)) (by simp only [inK]; (first | omega | (simp only [List.length_append, List.length_nil, List.length_cons, List.length_take, List.length_drop] at *; omega) | (have := wrong_len ‹¬ ¬ shipWrong d0 d1 = 0›; omega) | exact next_room ‹¬ ¬ shipWrong d0 d1 = 0› ‹_›)) (by simp only [inK]; (first | omega | (simp only [List.length_append, List.length_nil, List.length_cons, List.length_take, List.length_drop] at *; omega) | (have := wrong_len ‹¬ ¬ shipWrong d0 d1 = 0›; omega) | exact next_room ‹¬ ¬ shipWrong d0 d1 = 0› ‹_›)) (by simp only [inK]; (first | omega | (simp only [List.length_append, List.length_nil, List.length_cons, List.length_take, List.length_drop] at *; omega) | (have := wrong_len ‹¬ ¬ shipWrong d0 d1 = 0›; omega) | exact next_room ‹¬ ¬ shipWrong d0 d1 = 0› ‹_›)) (by simp only [inK]; (first | omega | (simp only [List.length_append, List.length_nil, List.length_cons, List.length_take, List.length_drop] at *; omega) | (have := wrong_len ‹¬ ¬ shipWrong d0 d1 = 0›; omega) | exact next_room ‹¬ ¬ shipWrong d0 d1 = 0› ‹_›)) (Ow.nil _ _) (by simp only [inK]; (first | omega | (simp only [List.length_append, List.length_nil, List.length_cons, List.length_take, List.length_drop] at *; omega) | (have := wrong_len ‹¬ ¬ shipWrong d0 d1 = 0›; omega) | exact next_room ‹¬ ¬ shipWrong d0 d1 = 0› ‹_›)) (by simp only [inK]; (first | omega | (simp only [List.length_append, List.length_nil, List.length_cons, List.length_take, List.length_drop] at *; omega) | (have := wrong_len ‹¬ ¬ shipWrong d0 d1 = 0›; omega) | exact next_room ‹¬ ¬ shipWrong d0 d1 = 0› ‹_›)) (Ow.nil _ _))
    all_goals (first | rfl | (first | (rw [next_wrong ‹_›]; rfl) | (rw [next_arg ‹¬ ¬ _› (by omega)]; rfl) | (rw [next_good ‹¬ ¬ _› ‹_› ‹_› ‹_›]; rfl)))
  · -- F
    refine VC.skip ?_
    refine outN ?_
    refine VC.seq ?_
    refine VC.rs ?_
    refine VO.mv ?_
    refine VO.y rfl (.lss rfl rfl) ?_
    refine VO.mv ?_
    refine VO.dec (t := 21) rfl (fun hc6 => ?_) (fun hc6 => ?_)
    · -- FT
      refine VO.gN ?_
      refine VO.gN ?_
      refine VO.gN ?_
      refine VO.gN ?_
      refine VO.y rfl (.pT rfl rfl) ?_
      refine VO.mv ?_
      refine VO.gN ?_
      refine VO.gN ?_
      refine VO.y rfl (.pT rfl rfl) ?_
      refine VO.k8 0 1 2 6 7 8 16 30 ?_
      refine VC.condT rfl ?_
      refine VC.rs ?_
      refine VO.y rfl (.bst (cs := [Value.int .i64 (0), Value.int .i64 (0), Value.int .u8 (0), Value.int .i64 (0), Value.slice none (0) (0), Value.int .i64 (0), Value.int .i64 (0), Value.slice none (0) (0)]) rfl tst72 tz72 rfl) ?_
      refine VO.store (k := 8) (c' := [Value.int .i64 (0), Value.int .i64 (0), Value.int .u8 (0), Value.int .i64 (0), Value.slice none (0) (0), Value.int .i64 (0), Value.int .i64 (0), Value.slice none (0) (0)]) 102 rfl rfl (.inl tk72) rfl rfl rfl rfl rfl ?_
      refine VO.as ?_
      refine VO.k8 0 1 2 6 7 8 16 30 ?_
      refine VC.ret ?_
      refine outR ?_
      refine ⟨_, _, res_run (rs := [.cell 6 72, .tmp 7]) rfl (.agg 102 rfl tk72 rfl ⟨_, _, _, mone_self _ _, Nat.le_of_ble_eq_true rfl, rfl⟩ (.tmp rfl .nil)), fun W_ hI => out_of (l := []) hI [] rfl rfl (mle_refl _) (fun hS_ => ?_)⟩
      dsimp only [packV]
      have he0 : ((shipNext d0 d1 d2).1 : Ty.Den TMessage) = (0, 0, 0, 0, [], 0, 0, []) := by first | rfl | (first | (rw [next_wrong ‹_›]; rfl) | (rw [next_arg ‹¬ ¬ _› (by omega)]; rfl) | (have hcs2 := hcs.trans ((List.take_of_length_le (by omega)).trans (next_list _ _ ‹_› ‹_›)); rw [next_good ‹¬ ¬ _› ‹_› ‹_› ‹_›, ← hcs2]; first | rw [prevOf_pos ‹0 < d2› ‹_›] | rw [prevOf_zero ‹_›]))
      refine ⟨[Value.int .i64 (0), Value.int .i64 (0), Value.int .u8 (0), Value.int .i64 (0), Value.slice none (0) (0), Value.int .i64 (0), Value.int .i64 (0), Value.slice none (0) (0)], ?_, ?_⟩
      rotate_left
      · rw [he0]; exact (mkO_Message 0 0 0 0 [] 0 0 [] (Seps.nilAt 1 (Seps.nilAt 0 hS_)) (by simp only [inK]; (first | omega | (simp only [List.length_append, List.length_nil, List.length_cons, List.length_take, List.length_drop] at *; omega) | (have := wrong_len ‹¬ ¬ shipWrong d0 d1 = 0›; omega) | exact next_room ‹¬ ¬ shipWrong d0 d1 = 0› ‹_›)) (by simp only [inK]; (first | omega | (simp only [List.length_append, List.length_nil, List.length_cons, List.length_take, List.length_drop] at *; omega) | (have := wrong_len ‹¬ ¬ shipWrong d0 d1 = 0›; omega) | exact next_room ‹¬ ¬ shipWrong d0 d1 = 0› ‹_›)) (by simp only [inK]; (first | omega | (simp only [List.length_append, List.length_nil, List.length_cons, List.length_take, List.length_drop] at *; omega) | (have := wrong_len ‹¬ ¬ shipWrong d0 d1 = 0›; omega) | exact next_room ‹¬ ¬ shipWrong d0 d1 = 0› ‹_›)) (by simp only [inK]; (first | omega | (simp only [List.length_append, List.length_nil, List.length_cons, List.length_take, List.length_drop] at *; omega) | (have := wrong_len ‹¬ ¬ shipWrong d0 d1 = 0›; omega) | exact next_room ‹¬ ¬ shipWrong d0 d1 = 0› ‹_›)) (Ow.nil _ _) (by simp only [inK]; (first | omega | (simp only [List.length_append, List.length_nil, List.length_cons, List.length_take, List.length_drop] at *; omega) | (have := wrong_len ‹¬ ¬ shipWrong d0 d1 = 0›; omega) | exact next_room ‹¬ ¬ shipWrong d0 d1 = 0› ‹_›)) (by simp only [inK]; (first | omega | (simp only [List.length_append, List.length_nil, List.length_cons, List.length_take, List.length_drop] at *; omega) | (have := wrong_len ‹¬ ¬ shipWrong d0 d1 = 0›; omega) | exact next_room ‹¬ ¬ shipWrong d0 d1 = 0› ‹_›)) (Ow.nil _ _))
      all_goals (first | rfl | (first | (rw [next_wrong ‹_›]; rfl) | (rw [next_arg ‹¬ ¬ _› (by omega)]; rfl) | (rw [next_good ‹¬ ¬ _› ‹_› ‹_› ‹_›]; rfl)))
    · -- FF
      refine VO.gy rfl ⟨_, rfl, rfl⟩ (.mv rfl) ?_
      refine VO.gy rfl ⟨_, rfl, rfl⟩ (.mv rfl) ?_
      refine VO.gy rfl ⟨_, rfl, rfl⟩ (.lenS rfl tsl61) ?_
      refine VO.gy rfl ⟨_, rfl, rfl⟩ (.gtr rfl rfl) ?_
      refine VO.y rfl (.pF rfl rfl) ?_
      refine VO.mv ?_
      refine VO.dec (t := 27) rfl (fun hc7 => ?_) (fun hc7 => ?_)
      · -- FFT
        refine VO.gN ?_
        refine VO.gN ?_
        refine VO.y rfl (.pT rfl rfl) ?_
        refine VO.k8 0 1 2 6 7 8 16 30 ?_
        refine VC.condT rfl ?_
        refine VC.rs ?_
        refine VO.y rfl (.bst (cs := [Value.int .i64 (0), Value.int .i64 (0), Value.int .u8 (0), Value.int .i64 (0), Value.slice none (0) (0), Value.int .i64 (0), Value.int .i64 (0), Value.slice none (0) (0)]) rfl tst72 tz72 rfl) ?_
        refine VO.store (k := 8) (c' := [Value.int .i64 (0), Value.int .i64 (0), Value.int .u8 (0), Value.int .i64 (0), Value.slice none (0) (0), Value.int .i64 (0), Value.int .i64 (0), Value.slice none (0) (0)]) 102 rfl rfl (.inl tk72) rfl rfl rfl rfl rfl ?_
        refine VO.as ?_
        refine VO.k8 0 1 2 6 7 8 16 30 ?_
        refine VC.ret ?_
        refine outR ?_
        refine ⟨_, _, res_run (rs := [.cell 6 72, .tmp 7]) rfl (.agg 102 rfl tk72 rfl ⟨_, _, _, mone_self _ _, Nat.le_of_ble_eq_true rfl, rfl⟩ (.tmp rfl .nil)), fun W_ hI => out_of (l := []) hI [] rfl rfl (mle_refl _) (fun hS_ => ?_)⟩
        dsimp only [packV]
        have he0 : ((shipNext d0 d1 d2).1 : Ty.Den TMessage) = (0, 0, 0, 0, [], 0, 0, []) := by first | rfl | (first | (rw [next_wrong ‹_›]; rfl) | (rw [next_arg ‹¬ ¬ _› (by omega)]; rfl) | (have hcs2 := hcs.trans ((List.take_of_length_le (by omega)).trans (next_list _ _ ‹_› ‹_›)); rw [next_good ‹¬ ¬ _› ‹_› ‹_› ‹_›, ← hcs2]; first | rw [prevOf_pos ‹0 < d2› ‹_›] | rw [prevOf_zero ‹_›]))
        refine ⟨[Value.int .i64 (0), Value.int .i64 (0), Value.int .u8 (0), Value.int .i64 (0), Value.slice none (0) (0), Value.int .i64 (0), Value.int .i64 (0), Value.slice none (0) (0)], ?_, ?_⟩
        rotate_left
        · rw [he0]; exact (mkO_Message 0 0 0 0 [] 0 0 [] (Seps.nilAt 1 (Seps.nilAt 0 hS_)) (by simp only [inK]; (first | omega | (simp only [List.length_append, List.length_nil, List.length_cons, List.length_take, List.length_drop] at *; omega) | (have := wrong_len ‹¬ ¬ shipWrong d0 d1 = 0›; omega) | exact next_room ‹¬ ¬ shipWrong d0 d1 = 0› ‹_›)) (by simp only [inK]; (first | omega | (simp only [List.length_append, List.length_nil, List.length_cons, List.length_take, List.length_drop] at *; omega) | (have := wrong_len ‹¬ ¬ shipWrong d0 d1 = 0›; omega) | exact next_room ‹¬ ¬ shipWrong d0 d1 = 0› ‹_›)) (by simp only [inK]; (first | omega | (simp only [List.length_append, List.length_nil, List.length_cons, List.length_take, List.length_drop] at *; omega) | (have := wrong_len ‹¬ ¬ shipWrong d0 d1 = 0›; omega) | exact next_room ‹¬ ¬ shipWrong d0 d1 = 0› ‹_›)) (by simp only [inK]; (first | omega | (simp only [List.length_append, List.length_nil, List.length_cons, List.length_take, List.length_drop] at *; omega) | (have := wrong_len ‹¬ ¬ shipWrong d0 d1 = 0›; omega) | exact next_room ‹¬ ¬ shipWrong d0 d1 = 0› ‹_›)) (Ow.nil _ _) (by simp only [inK]; (first | omega | (simp only [List.length_append, List.length_nil, List.length_cons, List.length_take, List.length_drop] at *; omega) | (have := wrong_len ‹¬ ¬ shipWrong d0 d1 = 0›; omega) | exact next_room ‹¬ ¬ shipWrong d0 d1 = 0› ‹_›)) (by simp only [inK]; (first | omega | (simp only [List.length_append, List.length_nil, List.length_cons, List.length_take, List.length_drop] at *; omega) | (have := wrong_len ‹¬ ¬ shipWrong d0 d1 = 0›; omega) | exact next_room ‹¬ ¬ shipWrong d0 d1 = 0› ‹_›)) (Ow.nil _ _))
        all_goals (first | rfl | (first | (rw [next_wrong ‹_›]; rfl) | (rw [next_arg ‹¬ ¬ _› (by omega)]; rfl) | (rw [next_good ‹¬ ¬ _› ‹_› ‹_› ‹_›]; rfl)))
      · -- FFF
        refine VO.gy rfl ⟨_, rfl, rfl⟩ (.mv rfl) ?_
        refine VO.gy rfl ⟨_, rfl, rfl⟩ (.eql rfl rfl) ?_
        refine VO.y rfl (.pF rfl rfl) ?_
        refine VO.k8 0 1 2 6 7 8 16 30 ?_
        refine VC.cond rfl (fun hc8 => ?_) (fun hc8 => ?_)
        · -- FFFT
          refine VC.rs ?_
          refine VO.y rfl (.bst (cs := [Value.int .i64 (0), Value.int .i64 (0), Value.int .u8 (0), Value.int .i64 (0), Value.slice none (0) (0), Value.int .i64 (0), Value.int .i64 (0), Value.slice none (0) (0)]) rfl tst72 tz72 rfl) ?_
          refine VO.store (k := 8) (c' := [Value.int .i64 (0), Value.int .i64 (0), Value.int .u8 (0), Value.int .i64 (0), Value.slice none (0) (0), Value.int .i64 (0), Value.int .i64 (0), Value.slice none (0) (0)]) 102 rfl rfl (.inl tk72) rfl rfl rfl rfl rfl ?_
          refine VO.as ?_
          refine VO.k8 0 1 2 6 7 8 16 30 ?_
          refine VC.ret ?_
          refine outR ?_
          refine ⟨_, _, res_run (rs := [.cell 6 72, .tmp 7]) rfl (.agg 102 rfl tk72 rfl ⟨_, _, _, mone_self _ _, Nat.le_of_ble_eq_true rfl, rfl⟩ (.tmp rfl .nil)), fun W_ hI => out_of (l := []) hI [] rfl rfl (mle_refl _) (fun hS_ => ?_)⟩
          dsimp only [packV]
          have he0 : ((shipNext d0 d1 d2).1 : Ty.Den TMessage) = (0, 0, 0, 0, [], 0, 0, []) := by first | rfl | (first | (rw [next_wrong ‹_›]; rfl) | (rw [next_arg ‹¬ ¬ _› (by omega)]; rfl) | (have hcs2 := hcs.trans ((List.take_of_length_le (by omega)).trans (next_list _ _ ‹_› ‹_›)); rw [next_good ‹¬ ¬ _› ‹_› ‹_› ‹_›, ← hcs2]; first | rw [prevOf_pos ‹0 < d2› ‹_›] | rw [prevOf_zero ‹_›]))
          refine ⟨[Value.int .i64 (0), Value.int .i64 (0), Value.int .u8 (0), Value.int .i64 (0), Value.slice none (0) (0), Value.int .i64 (0), Value.int .i64 (0), Value.slice none (0) (0)], ?_, ?_⟩
          rotate_left
          · rw [he0]; exact (mkO_Message 0 0 0 0 [] 0 0 [] (Seps.nilAt 1 (Seps.nilAt 0 hS_)) (by simp only [inK]; (first | omega | (simp only [List.length_append, List.length_nil, List.length_cons, List.length_take, List.length_drop] at *; omega) | (have := wrong_len ‹¬ ¬ shipWrong d0 d1 = 0›; omega) | exact next_room ‹¬ ¬ shipWrong d0 d1 = 0› ‹_›)) (by simp only [inK]; (first | omega | (simp only [List.length_append, List.length_nil, List.length_cons, List.length_take, List.length_drop] at *; omega) | (have := wrong_len ‹¬ ¬ shipWrong d0 d1 = 0›; omega) | exact next_room ‹¬ ¬ shipWrong d0 d1 = 0› ‹_›)) (by simp only [inK]; (first | omega | (simp only [List.length_append, List.length_nil, List.length_cons, List.length_take, List.length_drop] at *; omega) | (have := wrong_len ‹¬ ¬ shipWrong d0 d1 = 0›; omega) | exact next_room ‹¬ ¬ shipWrong d0 d1 = 0› ‹_›)) (by simp only [inK]; (first | omega | (simp only [List.length_append, List.length_nil, List.length_cons, List.length_take, List.length_drop] at *; omega) | (have := wrong_len ‹¬ ¬ shipWrong d0 d1 = 0›; omega) | exact next_room ‹¬ ¬ shipWrong d0 d1 = 0› ‹_›)) (Ow.nil _ _) (by simp only [inK]; (first | omega | (simp only [List.length_append, List.length_nil, List.length_cons, List.length_take, List.length_drop] at *; omega) | (have := wrong_len ‹¬ ¬ shipWrong d0 d1 = 0›; omega) | exact next_room ‹¬ ¬ shipWrong d0 d1 = 0› ‹_›)) (by simp only [inK]; (first | omega | (simp only [List.length_append, List.length_nil, List.length_cons, List.length_take, List.length_drop] at *; omega) | (have := wrong_len ‹¬ ¬ shipWrong d0 d1 = 0›; omega) | exact next_room ‹¬ ¬ shipWrong d0 d1 = 0› ‹_›)) (Ow.nil _ _))
          all_goals (first | rfl | (first | (rw [next_wrong ‹_›]; rfl) | (rw [next_arg ‹¬ ¬ _› (by omega)]; rfl) | (rw [next_good ‹¬ ¬ _› ‹_› ‹_› ‹_›]; rfl)))
        · -- FFFF
          refine VC.skip ?_
          refine outN ?_
          refine VC.rs ?_
          refine VO.mv ?_
          refine VO.mv ?_
          refine VO.y rfl (.add rfl rfl rfl ⟨by first | omega | (simp only [List.length_append, List.length_nil, List.length_cons, List.length_take, List.length_drop] at *; omega) | (have := wrong_len ‹¬ ¬ shipWrong d0 d1 = 0›; omega) | exact next_room ‹¬ ¬ shipWrong d0 d1 = 0› ‹_›, by first | omega | (simp only [List.length_append, List.length_nil, List.length_cons, List.length_take, List.length_drop] at *; omega) | (have := wrong_len ‹¬ ¬ shipWrong d0 d1 = 0›; omega) | exact next_room ‹¬ ¬ shipWrong d0 d1 = 0› ‹_›⟩) ?_
          refine VO.y rfl (.bst (cs := [Value.int .i64 (2), Value.int .i64 (d0), Value.int .u8 (0), Value.int .i64 (0), Value.slice none (0) (0), Value.int .i64 (d2 + 1), Value.int .i64 (0), Value.slice none (0) (0)]) rfl tst72 tz72 rfl) ?_
          refine VO.alloc 110 rfl tz72 (fun g9 => ?_)
          refine VO.store (k := 8) (c' := [Value.int .i64 (2), Value.int .i64 (d0), Value.int .u8 (0), Value.int .i64 (0), Value.slice none (0) (0), Value.int .i64 (d2 + 1), Value.int .i64 (0), Value.slice none (0) (0)]) 110 rfl rfl (.inl tk72) rfl rfl rfl rfl rfl ?_
          refine VO.k9 0 1 2 6 7 8 9 16 30 ?_
          refine VC.seq ?_
          refine VC.rs ?_
          refine VO.mv ?_
          refine VO.y rfl (.gtr rfl rfl) ?_
          refine VO.keep [110, 102, 0] [(110, mone g9 (.cells [Value.int .i64 (2), Value.int .i64 (d0), Value.int .u8 (0), Value.int .i64 (0), Value.slice none (0) (0), Value.int .i64 (d2 + 1), Value.int .i64 (0), Value.slice none (0) (0)].toArray 72 (0, 0))), (102, mone g1 (.cells [Value.int .i64 (0), Value.int .i64 (0), Value.int .u8 (0), Value.int .i64 (0), Value.slice none (0) (0), Value.int .i64 (0), Value.int .i64 (0), Value.slice none (0) (0)].toArray 72 (0, 0))), (0, wm W)] (by kernel_rfl) ?_
          refine VO.k10 0 1 2 6 7 8 9 16 30 37 ?_
          refine VC.cond rfl (fun hc11 => ?_) (fun hc11 => ?_)
          · -- FFFFT
            refine VC.reg ?_
            refine VO.mv ?_
            refine VO.mv ?_
            refine VO.y rfl (.sub rfl rfl rfl ⟨by first | omega | (simp only [List.length_append, List.length_nil, List.length_cons, List.length_take, List.length_drop] at *; omega) | (have := wrong_len ‹¬ ¬ shipWrong d0 d1 = 0›; omega) | exact next_room ‹¬ ¬ shipWrong d0 d1 = 0› ‹_›, by first | omega | (simp only [List.length_append, List.length_nil, List.length_cons, List.length_take, List.length_drop] at *; omega) | (have := wrong_len ‹¬ ¬ shipWrong d0 d1 = 0›; omega) | exact next_room ‹¬ ¬ shipWrong d0 d1 = 0› ‹_›⟩) ?_
            obtain ⟨x12, hx12⟩ : ∃ z_, (d1)[(d2 - 1).toNat]? = some z_ := ⟨_, List.getElem?_eq_getElem (by first | omega | (simp only [List.length_append, List.length_nil, List.length_cons, List.length_take, List.length_drop] at *; omega) | (have := wrong_len ‹¬ ¬ shipWrong d0 d1 = 0›; omega) | exact next_room ‹¬ ¬ shipWrong d0 d1 = 0› ‹_›)⟩
            obtain ⟨gg12, oo12, ec12, ea12, hce12, hre12⟩ := h1.elem hx12
            cases ea12
            obtain ⟨q12_A2, q12_c2, rfl, q12_0, q12_1, q12_2⟩ := open_Commit (x0 := x12.1) (x1 := x12.2.1) (x2 := x12.2.2) hre12
            simp only [inK] at q12_0
            simp only [inK] at q12_1
            have q12_r2 := Rd.room q12_2
            refine VO.y rfl (.ixI ((d2 - 1).toNat) rfl rfl tsl61 (by first | omega | (simp only [List.length_append, List.length_nil, List.length_cons, List.length_take, List.length_drop] at *; omega) | (have := wrong_len ‹¬ ¬ shipWrong d0 d1 = 0›; omega) | exact next_room ‹¬ ¬ shipWrong d0 d1 = 0› ‹_›) (by first | omega | (simp only [List.length_append, List.length_nil, List.length_cons, List.length_take, List.length_drop] at *; omega) | (have := wrong_len ‹¬ ¬ shipWrong d0 d1 = 0›; omega) | exact next_room ‹¬ ¬ shipWrong d0 d1 = 0› ‹_›)) ?_
            refine VO.y rfl (.fa rfl tst52 rfl) ?_
            refine VO.y rfl (.ld1 0 rfl tk3 rfl (hce12.at1 (j := 0) rfl)) ?_
            refine VO.y rfl (.fa rfl tst72 rfl) ?_
            refine VO.store (k := 1) (c' := [Value.int .i64 (2), Value.int .i64 (d0), Value.int .u8 (0), Value.int .i64 (0), Value.slice none (0) (0), Value.int .i64 (d2 + 1), Value.int .i64 (x12.1), Value.slice none (0) (0)]) 110 rfl rfl (.inr ⟨tk3, rfl⟩) rfl rfl rfl rfl rfl ?_
            refine VO.k10 0 1 2 6 7 8 9 16 30 37 ?_
            refine outN ?_
            refine VC.seq ?_
            refine VC.rs ?_
            refine VO.mv ?_
            refine VO.mv ?_
            refine VO.mv ?_
            refine VO.y rfl (.add rfl rfl rfl ⟨by first | omega | (simp only [List.length_append, List.length_nil, List.length_cons, List.length_take, List.length_drop] at *; omega) | (have := wrong_len ‹¬ ¬ shipWrong d0 d1 = 0›; omega) | exact next_room ‹¬ ¬ shipWrong d0 d1 = 0› ‹_›, by first | omega | (simp only [List.length_append, List.length_nil, List.length_cons, List.length_take, List.length_drop] at *; omega) | (have := wrong_len ‹¬ ¬ shipWrong d0 d1 = 0›; omega) | exact next_room ‹¬ ¬ shipWrong d0 d1 = 0› ‹_›⟩) ?_
            refine VO.mv ?_
            refine VO.y rfl (.lenS rfl tsl61) ?_
            refine VO.y rfl (.minM rfl rfl) ?_
            obtain ⟨A13, hA13, hs13⟩ := h1.sub' 3 ((d2).toNat) ((min (d2 + 4) ((d1.length : Nat) : Int)).toNat) rfl (by first | omega | (simp only [List.length_append, List.length_nil, List.length_cons, List.length_take, List.length_drop] at *; omega) | (have := wrong_len ‹¬ ¬ shipWrong d0 d1 = 0›; omega) | exact next_room ‹¬ ¬ shipWrong d0 d1 = 0› ‹_›) (by first | omega | (simp only [List.length_append, List.length_nil, List.length_cons, List.length_take, List.length_drop] at *; omega) | (have := wrong_len ‹¬ ¬ shipWrong d0 d1 = 0›; omega) | exact next_room ‹¬ ¬ shipWrong d0 d1 = 0› ‹_›)
            refine VO.y rfl (.slI ((d2).toNat) ((min (d2 + 4) ((d1.length : Nat) : Int)).toNat) A13 rfl rfl rfl tsl61 (by first | omega | (simp only [List.length_append, List.length_nil, List.length_cons, List.length_take, List.length_drop] at *; omega) | (have := wrong_len ‹¬ ¬ shipWrong d0 d1 = 0›; omega) | exact next_room ‹¬ ¬ shipWrong d0 d1 = 0› ‹_›) (by first | omega | (simp only [List.length_append, List.length_nil, List.length_cons, List.length_take, List.length_drop] at *; omega) | (have := wrong_len ‹¬ ¬ shipWrong d0 d1 = 0›; omega) | exact next_room ‹¬ ¬ shipWrong d0 d1 = 0› ‹_›) hA13 (by first | omega | (simp only [List.length_append, List.length_nil, List.length_cons, List.length_take, List.length_drop] at *; omega) | (have := wrong_len ‹¬ ¬ shipWrong d0 d1 = 0›; omega) | exact next_room ‹¬ ¬ shipWrong d0 d1 = 0› ‹_›) (by first | omega | (simp only [List.length_append, List.length_nil, List.length_cons, List.length_take, List.length_drop] at *; omega) | (have := wrong_len ‹¬ ¬ shipWrong d0 d1 = 0›; omega) | exact next_room ‹¬ ¬ shipWrong d0 d1 = 0› ‹_›)) ?_
            refine VO.y rfl (.lenS rfl tsl61) ?_
            refine VO.mv ?_
            refine VO.k13 0 1 2 6 7 8 9 16 30 37 52 53 54 ?_
            refine VC.block ?_
            refine VC.inv ((114, mnil) :: _) (fun _ h => h.nilc 114) ?_
            refine VC.loop (G := Nat × (List DCommit) × (Option Addr) × Nat × Mem) (fun g => [(54, Value.int .i64 ((((g.1) : Nat) : Int))), (0, Value.int .i64 (d0)), (1, Value.slice (some ⟨gg12, oo12, none⟩) (d1.length) (c1)), (2, Value.int .i64 (d2)), (6, Value.pointer (some ⟨g1, 0, none⟩)), (7, Value.int .i64 (0)), (8, Value.int .i64 (shipWrong d0 d1)), (9, Value.pointer (some ⟨g9, 0, none⟩)), (16, Value.bool (decide (¬ (shipWrong d0 d1) = 0))), (30, Value.bool (decide (d2 = 1048576))), (37, Value.bool (decide (0 < d2))), (52, Value.slice A13 (((min (d2 + 4) ((d1.length : Nat) : Int)).toNat) - ((d2).toNat)) (c1 - ((d2).toNat))), (53, Value.int .i64 (((((min (d2 + 4) ((d1.length : Nat) : Int)).toNat) - ((d2).toNat) : Nat) : Int)))]) (fun g => [(114, (g.2.2.2.2)), (110, mone g9 (.cells [Value.int .i64 (2), Value.int .i64 (d0), Value.int .u8 (0), Value.int .i64 (0), Value.slice none (0) (0), Value.int .i64 (d2 + 1), Value.int .i64 (x12.1), Value.slice (g.2.2.1) ((g.2.1).length) ((g.2.2.2.1))].toArray 72 (0, 0))), (102, mone g1 (.cells [Value.int .i64 (0), Value.int .i64 (0), Value.int .u8 (0), Value.int .i64 (0), Value.slice none (0) (0), Value.int .i64 (0), Value.int .i64 (0), Value.slice none (0) (0)].toArray 72 (0, 0))), (0, wm W)]) (fun g => ((g.1) ≤ ((d1.take (min (d2 + 4) (d1.length : Int)).toNat).drop d2.toNat).length) ∧ ((g.2.1) = ((d1.take (min (d2 + 4) (d1.length : Int)).toNat).drop d2.toNat).take (g.1)) ∧ (Ow (.sl TCommit) (g.2.2.2.2) [.slice (g.2.2.1) (g.2.1).length (g.2.2.2.1)] (g.2.1))) (fun g => ((d1.take (min (d2 + 4) (d1.length : Int)).toNat).drop d2.toNat).length - (g.1)) (0, [], none, 0, mnil) (⟨by simp, by rfl, (Ow.nil TCommit mnil)⟩) ⟨⟨rfl, rfl, rfl, rfl, rfl, rfl, rfl, rfl, rfl, rfl, rfl, rfl, rfl, trivial⟩, fun _ h => h.sub [114, 110, 102, 0]⟩ ?_
            rintro ⟨k, cs, cs_A, cs_c, cs_m⟩ ⟨hk, hcs, h_cs⟩
            replace hk : k ≤ ((d1.take (min (d2 + 4) (d1.length : Int)).toNat).drop d2.toNat).length := hk
            replace hcs : cs = ((d1.take (min (d2 + 4) (d1.length : Int)).toNat).drop d2.toNat).take k := hcs
            replace h_cs : Ow (.sl TCommit) cs_m [.slice cs_A cs.length cs_c] cs := h_cs
            show VC _ _ _ _ _ [(54, Value.int .i64 (((k : Nat) : Int))), (0, Value.int .i64 (d0)), (1, Value.slice (some ⟨gg12, oo12, none⟩) (d1.length) (c1)), (2, Value.int .i64 (d2)), (6, Value.pointer (some ⟨g1, 0, none⟩)), (7, Value.int .i64 (0)), (8, Value.int .i64 (shipWrong d0 d1)), (9, Value.pointer (some ⟨g9, 0, none⟩)), (16, Value.bool (decide (¬ (shipWrong d0 d1) = 0))), (30, Value.bool (decide (d2 = 1048576))), (37, Value.bool (decide (0 < d2))), (52, Value.slice A13 (((min (d2 + 4) ((d1.length : Nat) : Int)).toNat) - ((d2).toNat)) (c1 - ((d2).toNat))), (53, Value.int .i64 (((((min (d2 + 4) ((d1.length : Nat) : Int)).toNat) - ((d2).toNat) : Nat) : Int)))] [(114, cs_m), (110, mone g9 (.cells [Value.int .i64 (2), Value.int .i64 (d0), Value.int .u8 (0), Value.int .i64 (0), Value.slice none (0) (0), Value.int .i64 (d2 + 1), Value.int .i64 (x12.1), Value.slice cs_A (cs.length) (cs_c)].toArray 72 (0, 0))), (102, mone g1 (.cells [Value.int .i64 (0), Value.int .i64 (0), Value.int .u8 (0), Value.int .i64 (0), Value.slice none (0) (0), Value.int .i64 (0), Value.int .i64 (0), Value.slice none (0) (0)].toArray 72 (0, 0))), (0, wm W)]
            have l_cs : cs.length ≤ cs_c := by obtain ⟨_, _, he, hl, _⟩ := h_cs.slice; simp only [Value.slice.injEq] at he; omega
            have k_cs : cs_c ≤ 9223372036854775807 := by obtain ⟨_, _, he, _, hl⟩ := h_cs.slice; simp only [Value.slice.injEq, maxLen] at he hl; omega
            have hl0 : ((d1.take (min (d2 + 4) (d1.length : Int)).toNat).drop d2.toNat).length = min (d2.toNat + 4) d1.length - d2.toNat := by simp only [List.length_drop, List.length_take]; omega
            have hlc : cs.length ≤ k := by rw [hcs]; simp; omega
            refine VC.rs ?_
            refine VO.y rfl (.lss rfl rfl) ?_
            refine VO.keep [114, 110, 102, 0] [(114, cs_m), (110, mone g9 (.cells [Value.int .i64 (2), Value.int .i64 (d0), Value.int .u8 (0), Value.int .i64 (0), Value.slice none (0) (0), Value.int .i64 (d2 + 1), Value.int .i64 (x12.1), Value.slice cs_A (cs.length) (cs_c)].toArray 72 (0, 0))), (102, mone g1 (.cells [Value.int .i64 (0), Value.int .i64 (0), Value.int .u8 (0), Value.int .i64 (0), Value.slice none (0) (0), Value.int .i64 (0), Value.int .i64 (0), Value.slice none (0) (0)].toArray 72 (0, 0))), (0, wm W)] (by kernel_rfl) ?_
            refine VO.k14 0 1 2 6 7 8 9 16 30 37 52 53 54 55 ?_
            refine VC.seq ?_
            refine VC.cond rfl (fun hc15 => ?_) (fun hc15 => ?_)
            · -- FFFFTT
              refine VC.skip ?_
              refine outN ?_
              refine VC.seq ?_
              refine VC.block ?_
              refine VC.rs ?_
              obtain ⟨x16, hx16⟩ : ∃ z_, ((d1.take ((min (d2 + 4) ((d1.length : Nat) : Int)).toNat)).drop ((d2).toNat))[k]? = some z_ := ⟨_, List.getElem?_eq_getElem (by first | omega | (simp only [List.length_append, List.length_nil, List.length_cons, List.length_take, List.length_drop] at *; omega) | (have := wrong_len ‹¬ ¬ shipWrong d0 d1 = 0›; omega) | exact next_room ‹¬ ¬ shipWrong d0 d1 = 0› ‹_›)⟩
              obtain ⟨gg16, oo16, ec16, ea16, hce16, hre16⟩ := hs13.elem hx16
              cases ea16
              obtain ⟨q16_A2, q16_c2, rfl, q16_0, q16_1, q16_2⟩ := open_Commit (x0 := x16.1) (x1 := x16.2.1) (x2 := x16.2.2) hre16
              simp only [inK] at q16_0
              simp only [inK] at q16_1
              have q16_r2 := Rd.room q16_2
              refine VO.y rfl (.ixI k rfl rfl tsl61 rfl (by first | omega | (simp only [List.length_append, List.length_nil, List.length_cons, List.length_take, List.length_drop] at *; omega) | (have := wrong_len ‹¬ ¬ shipWrong d0 d1 = 0›; omega) | exact next_room ‹¬ ¬ shipWrong d0 d1 = 0› ‹_›)) ?_
              refine VO.y rfl (.ldA 0 rfl tk52 rfl hce16) ?_
              refine VO.alloc 118 rfl tz52 (fun g17 => ?_)
              refine VO.store (k := 3) (c' := [Value.int .i64 (x16.1), Value.int .i64 (x16.2.1), Value.slice q16_A2 (x16.2.2.length) (q16_c2)]) 118 rfl rfl (.inl tk52) rfl rfl rfl rfl rfl ?_
              refine VO.k15 0 1 2 6 7 8 9 11 16 30 37 52 53 54 55 ?_
              refine VC.regD _ 5 [(0, true), (1, true), (2, true), (3, false), (4, false)] follows (by kernel_rfl) (fun _ h => h.sub [118, 114, 110, 102, 0]) ?_
              refine VD.y rfl rfl (.inl rfl) (.fa rfl tst72 rfl) ?_
              refine VD.y rfl rfl (.inl rfl) (.ld1 110 rfl tk61 rfl (cellsAt_one rfl rfl)) ?_
              refine VD.y rfl rfl (.inl rfl) (.ldA 118 rfl tk52 rfl (cellsAt_one rfl rfl)) ?_
              refine VD.callN 119 rfl rfl (.inl rfl) fnOk60 rfl (fun _ h => h.sub [118, 114, 110, 102, 0]) (fun W hW => cCopy_ok W (Rd.mono hre16 (hW.at (i := 0) rfl)) (by first | omega | (simp only [List.length_append, List.length_nil, List.length_cons, List.length_take, List.length_drop] at *; omega) | (have := wrong_len ‹¬ ¬ shipWrong d0 d1 = 0›; omega) | exact next_room ‹¬ ¬ shipWrong d0 d1 = 0› ‹_›)) (fun v19 m19 hv19 => ?_)
              obtain ⟨s19_0, rfl, f19_0⟩ := hv19
              obtain ⟨q19_0_A2, q19_0_c2, q19_0_n2, rfl, q19_0_S, q19_0_0, q19_0_1, q19_0_2⟩ := openO_Commit (x0 := x16.1) (x1 := x16.2.1) (x2 := x16.2.2) f19_0
              simp only [inK] at q19_0_0
              simp only [inK] at q19_0_1
              have q19_0_r2 := Rd.room (q19_0_2.rd (mle_refl _))
              refine VD.inv _ (fun _ h => h.parts (i := 119) rfl q19_0_S [120]) ?_
              refine VD.bsl (cs := [Value.int .i64 (x16.1), Value.int .i64 (x16.2.1), Value.slice q19_0_A2 (x16.2.2.length) (q19_0_c2)]) 122 rfl rfl rfl tsl61 tz52 rfl rfl (fun _ h => h.sub [118, 114, 110, 102, 0]) (fun g21 => ?_)
              refine VD.nil rfl ?_ rfl
              refine VO.appO (e := TCommit) 114 120 122 rfl rfl rfl tsl61 tz52 rfl rfl rfl rfl h_cs (show Ow TCommit _ _ x16 from (mkO_Commit x16.1 x16.2.1 x16.2.2 (Seps.one (mle_refl _)) (by simp only [inK]; (first | omega | (simp only [List.length_append, List.length_nil, List.length_cons, List.length_take, List.length_drop] at *; omega) | (have := wrong_len ‹¬ ¬ shipWrong d0 d1 = 0›; omega) | exact next_room ‹¬ ¬ shipWrong d0 d1 = 0› ‹_›)) (by simp only [inK]; (first | omega | (simp only [List.length_append, List.length_nil, List.length_cons, List.length_take, List.length_drop] at *; omega) | (have := wrong_len ‹¬ ¬ shipWrong d0 d1 = 0›; omega) | exact next_room ‹¬ ¬ shipWrong d0 d1 = 0› ‹_›)) (OwnL.ow (Ow.ownl q19_0_2 rfl mnil) rfl))) Try.underlying61 (cellsAt_one rfl rfl) (by simp only [maxLen]; (first | omega | (simp only [List.length_append, List.length_nil, List.length_cons, List.length_take, List.length_drop] at *; omega) | (have := wrong_len ‹¬ ¬ shipWrong d0 d1 = 0›; omega) | exact next_room ‹¬ ¬ shipWrong d0 d1 = 0› ‹_›)) (by first | omega | (simp only [List.length_append, List.length_nil, List.length_cons, List.length_take, List.length_drop] at *; omega) | (have := wrong_len ‹¬ ¬ shipWrong d0 d1 = 0›; omega) | exact next_room ‹¬ ¬ shipWrong d0 d1 = 0› ‹_›) (by decide) (fun v23 m23 ho23 => ?_)
              obtain ⟨A23, c23, rfl, l23, k23⟩ := ho23.slice
              simp only [maxLen] at k23
              refine VO.y rfl (.fa rfl tst72 rfl) ?_
              refine VO.store (k := 1) (c' := [Value.int .i64 (2), Value.int .i64 (d0), Value.int .u8 (0), Value.int .i64 (0), Value.slice none (0) (0), Value.int .i64 (d2 + 1), Value.int .i64 (x12.1), Value.slice A23 ((cs ++ [x16]).length) (c23)]) 110 rfl rfl (.inr ⟨tk61, rfl⟩) rfl rfl rfl rfl rfl ?_
              refine VO.k15 0 1 2 6 7 8 9 11 16 30 37 52 53 54 55 ?_
              refine outBN ?_
              refine outN ?_
              refine VC.reg ?_
              refine VO.y rfl (.add (c := ((k + 1 : Nat) : Int)) rfl rfl (by omega) ⟨by first | omega | (simp only [List.length_append, List.length_nil, List.length_cons, List.length_take, List.length_drop] at *; omega) | (have := wrong_len ‹¬ ¬ shipWrong d0 d1 = 0›; omega) | exact next_room ‹¬ ¬ shipWrong d0 d1 = 0› ‹_›, by first | omega | (simp only [List.length_append, List.length_nil, List.length_cons, List.length_take, List.length_drop] at *; omega) | (have := wrong_len ‹¬ ¬ shipWrong d0 d1 = 0›; omega) | exact next_room ‹¬ ¬ shipWrong d0 d1 = 0› ‹_›⟩) ?_
              refine VO.mv ?_
              refine VO.keep [114, 118, 110, 102, 0] [(114, m23), (118, mone g17 (.cells [Value.int .i64 (x16.1), Value.int .i64 (x16.2.1), Value.slice q16_A2 (x16.2.2.length) (q16_c2)].toArray 52 (0, 0))), (110, mone g9 (.cells [Value.int .i64 (2), Value.int .i64 (d0), Value.int .u8 (0), Value.int .i64 (0), Value.slice none (0) (0), Value.int .i64 (d2 + 1), Value.int .i64 (x12.1), Value.slice A23 ((cs ++ [x16]).length) (c23)].toArray 72 (0, 0))), (102, mone g1 (.cells [Value.int .i64 (0), Value.int .i64 (0), Value.int .u8 (0), Value.int .i64 (0), Value.slice none (0) (0), Value.int .i64 (0), Value.int .i64 (0), Value.slice none (0) (0)].toArray 72 (0, 0))), (0, wm W)] (by kernel_rfl) ?_
              refine VO.k15 0 1 2 6 7 8 9 11 16 30 37 52 53 54 55 ?_
              exact outN ⟨⟨k + 1, cs ++ [x16], A23, c23, m23⟩, ⟨by simp only [List.length_drop, List.length_take]; omega, by rw [hcs]; exact (take_one ‹_›).symm, ho23⟩, by first | omega | (simp only [List.length_append, List.length_nil, List.length_cons, List.length_take, List.length_drop] at *; omega) | (have := wrong_len ‹¬ ¬ shipWrong d0 d1 = 0›; omega) | exact next_room ‹¬ ¬ shipWrong d0 d1 = 0› ‹_›, ⟨⟨rfl, rfl, rfl, rfl, rfl, rfl, rfl, rfl, rfl, rfl, rfl, rfl, rfl, trivial⟩, fun _ h => Inv.sub h [114, 110, 102, 0]⟩⟩
            · -- FFFFTF
              refine VC.exit ?_
              refine outE ?_
              refine outE ?_
              refine outBB ?_
              refine outN ?_
              refine VC.rs ?_
              refine VO.y rfl (.ldA 110 rfl tk72 rfl (cellsAt_one rfl rfl)) ?_
              refine VO.store (k := 8) (c' := [Value.int .i64 (2), Value.int .i64 (d0), Value.int .u8 (0), Value.int .i64 (0), Value.slice none (0) (0), Value.int .i64 (d2 + 1), Value.int .i64 (x12.1), Value.slice cs_A (cs.length) (cs_c)]) 102 rfl rfl (.inl tk72) rfl rfl rfl rfl rfl ?_
              refine VO.as ?_
              refine VO.k14 0 1 2 6 7 8 9 16 30 37 52 53 54 55 ?_
              refine VC.ret ?_
              refine ⟨_, _, res_run (rs := [.cell 6 72, .tmp 7]) rfl (.agg 102 rfl tk72 rfl ⟨_, _, _, mone_self _ _, Nat.le_of_ble_eq_true rfl, rfl⟩ (.tmp rfl .nil)), fun W_ hI => out_of (l := [cs_m]) hI [114] rfl rfl (mle_refl _) (fun hS_ => ?_)⟩
              dsimp only [packV]
              have he0 : ((shipNext d0 d1 d2).1 : Ty.Den TMessage) = (2, d0, 0, 0, [], d2 + 1, x12.1, cs) := by first | rfl | (first | (rw [next_wrong ‹_›]; rfl) | (rw [next_arg ‹¬ ¬ _› (by omega)]; rfl) | (have hcs2 := hcs.trans ((List.take_of_length_le (by omega)).trans (next_list _ _ ‹_› ‹_›)); rw [next_good ‹¬ ¬ _› ‹_› ‹_› ‹_›, ← hcs2]; first | rw [prevOf_pos ‹0 < d2› ‹_›] | rw [prevOf_zero ‹_›]))
              refine ⟨[Value.int .i64 (2), Value.int .i64 (d0), Value.int .u8 (0), Value.int .i64 (0), Value.slice none (0) (0), Value.int .i64 (d2 + 1), Value.int .i64 (x12.1), Value.slice cs_A (cs.length) (cs_c)], ?_, ?_⟩
              rotate_left
              · rw [he0]; exact (mkO_Message 2 d0 0 0 [] (d2 + 1) x12.1 cs (Seps.nilAt 0 hS_) (by simp only [inK]; (first | omega | (simp only [List.length_append, List.length_nil, List.length_cons, List.length_take, List.length_drop] at *; omega) | (have := wrong_len ‹¬ ¬ shipWrong d0 d1 = 0›; omega) | exact next_room ‹¬ ¬ shipWrong d0 d1 = 0› ‹_›)) (by simp only [inK]; (first | omega | (simp only [List.length_append, List.length_nil, List.length_cons, List.length_take, List.length_drop] at *; omega) | (have := wrong_len ‹¬ ¬ shipWrong d0 d1 = 0›; omega) | exact next_room ‹¬ ¬ shipWrong d0 d1 = 0› ‹_›)) (by simp only [inK]; (first | omega | (simp only [List.length_append, List.length_nil, List.length_cons, List.length_take, List.length_drop] at *; omega) | (have := wrong_len ‹¬ ¬ shipWrong d0 d1 = 0›; omega) | exact next_room ‹¬ ¬ shipWrong d0 d1 = 0› ‹_›)) (by simp only [inK]; (first | omega | (simp only [List.length_append, List.length_nil, List.length_cons, List.length_take, List.length_drop] at *; omega) | (have := wrong_len ‹¬ ¬ shipWrong d0 d1 = 0›; omega) | exact next_room ‹¬ ¬ shipWrong d0 d1 = 0› ‹_›)) (Ow.nil _ _) (by simp only [inK]; (first | omega | (simp only [List.length_append, List.length_nil, List.length_cons, List.length_take, List.length_drop] at *; omega) | (have := wrong_len ‹¬ ¬ shipWrong d0 d1 = 0›; omega) | exact next_room ‹¬ ¬ shipWrong d0 d1 = 0› ‹_›)) (by simp only [inK]; (first | omega | (simp only [List.length_append, List.length_nil, List.length_cons, List.length_take, List.length_drop] at *; omega) | (have := wrong_len ‹¬ ¬ shipWrong d0 d1 = 0›; omega) | exact next_room ‹¬ ¬ shipWrong d0 d1 = 0› ‹_›)) h_cs)
              all_goals (first | rfl | (first | (rw [next_wrong ‹_›]; rfl) | (rw [next_arg ‹¬ ¬ _› (by omega)]; rfl) | (rw [next_good ‹¬ ¬ _› ‹_› ‹_› ‹_›]; rfl)))
          · -- FFFFF
            refine VC.skip ?_
            refine outN ?_
            refine VC.seq ?_
            refine VC.rs ?_
            refine VO.mv ?_
            refine VO.mv ?_
            refine VO.mv ?_
            refine VO.y rfl (.add rfl rfl rfl ⟨by first | omega | (simp only [List.length_append, List.length_nil, List.length_cons, List.length_take, List.length_drop] at *; omega) | (have := wrong_len ‹¬ ¬ shipWrong d0 d1 = 0›; omega) | exact next_room ‹¬ ¬ shipWrong d0 d1 = 0› ‹_›, by first | omega | (simp only [List.length_append, List.length_nil, List.length_cons, List.length_take, List.length_drop] at *; omega) | (have := wrong_len ‹¬ ¬ shipWrong d0 d1 = 0›; omega) | exact next_room ‹¬ ¬ shipWrong d0 d1 = 0› ‹_›⟩) ?_
            refine VO.mv ?_
            refine VO.y rfl (.lenS rfl tsl61) ?_
            refine VO.y rfl (.minM rfl rfl) ?_
            obtain ⟨A24, hA24, hs24⟩ := h1.sub' 3 ((d2).toNat) ((min (d2 + 4) ((d1.length : Nat) : Int)).toNat) rfl (by first | omega | (simp only [List.length_append, List.length_nil, List.length_cons, List.length_take, List.length_drop] at *; omega) | (have := wrong_len ‹¬ ¬ shipWrong d0 d1 = 0›; omega) | exact next_room ‹¬ ¬ shipWrong d0 d1 = 0› ‹_›) (by first | omega | (simp only [List.length_append, List.length_nil, List.length_cons, List.length_take, List.length_drop] at *; omega) | (have := wrong_len ‹¬ ¬ shipWrong d0 d1 = 0›; omega) | exact next_room ‹¬ ¬ shipWrong d0 d1 = 0› ‹_›)
            refine VO.y rfl (.slI ((d2).toNat) ((min (d2 + 4) ((d1.length : Nat) : Int)).toNat) A24 rfl rfl rfl tsl61 (by first | omega | (simp only [List.length_append, List.length_nil, List.length_cons, List.length_take, List.length_drop] at *; omega) | (have := wrong_len ‹¬ ¬ shipWrong d0 d1 = 0›; omega) | exact next_room ‹¬ ¬ shipWrong d0 d1 = 0› ‹_›) (by first | omega | (simp only [List.length_append, List.length_nil, List.length_cons, List.length_take, List.length_drop] at *; omega) | (have := wrong_len ‹¬ ¬ shipWrong d0 d1 = 0›; omega) | exact next_room ‹¬ ¬ shipWrong d0 d1 = 0› ‹_›) hA24 (by first | omega | (simp only [List.length_append, List.length_nil, List.length_cons, List.length_take, List.length_drop] at *; omega) | (have := wrong_len ‹¬ ¬ shipWrong d0 d1 = 0›; omega) | exact next_room ‹¬ ¬ shipWrong d0 d1 = 0› ‹_›) (by first | omega | (simp only [List.length_append, List.length_nil, List.length_cons, List.length_take, List.length_drop] at *; omega) | (have := wrong_len ‹¬ ¬ shipWrong d0 d1 = 0›; omega) | exact next_room ‹¬ ¬ shipWrong d0 d1 = 0› ‹_›)) ?_
            refine VO.y rfl (.lenS rfl tsl61) ?_
            refine VO.mv ?_
            refine VO.k13 0 1 2 6 7 8 9 16 30 37 52 53 54 ?_
            refine VC.block ?_
            refine VC.inv ((125, mnil) :: _) (fun _ h => h.nilc 125) ?_
            refine VC.loop (G := Nat × (List DCommit) × (Option Addr) × Nat × Mem) (fun g => [(54, Value.int .i64 ((((g.1) : Nat) : Int))), (0, Value.int .i64 (d0)), (1, Value.slice A1 (d1.length) (c1)), (2, Value.int .i64 (d2)), (6, Value.pointer (some ⟨g1, 0, none⟩)), (7, Value.int .i64 (0)), (8, Value.int .i64 (shipWrong d0 d1)), (9, Value.pointer (some ⟨g9, 0, none⟩)), (16, Value.bool (decide (¬ (shipWrong d0 d1) = 0))), (30, Value.bool (decide (d2 = 1048576))), (37, Value.bool (decide (0 < d2))), (52, Value.slice A24 (((min (d2 + 4) ((d1.length : Nat) : Int)).toNat) - ((d2).toNat)) (c1 - ((d2).toNat))), (53, Value.int .i64 (((((min (d2 + 4) ((d1.length : Nat) : Int)).toNat) - ((d2).toNat) : Nat) : Int)))]) (fun g => [(125, (g.2.2.2.2)), (110, mone g9 (.cells [Value.int .i64 (2), Value.int .i64 (d0), Value.int .u8 (0), Value.int .i64 (0), Value.slice none (0) (0), Value.int .i64 (d2 + 1), Value.int .i64 (0), Value.slice (g.2.2.1) ((g.2.1).length) ((g.2.2.2.1))].toArray 72 (0, 0))), (102, mone g1 (.cells [Value.int .i64 (0), Value.int .i64 (0), Value.int .u8 (0), Value.int .i64 (0), Value.slice none (0) (0), Value.int .i64 (0), Value.int .i64 (0), Value.slice none (0) (0)].toArray 72 (0, 0))), (0, wm W)]) (fun g => ((g.1) ≤ ((d1.take (min (d2 + 4) (d1.length : Int)).toNat).drop d2.toNat).length) ∧ ((g.2.1) = ((d1.take (min (d2 + 4) (d1.length : Int)).toNat).drop d2.toNat).take (g.1)) ∧ (Ow (.sl TCommit) (g.2.2.2.2) [.slice (g.2.2.1) (g.2.1).length (g.2.2.2.1)] (g.2.1))) (fun g => ((d1.take (min (d2 + 4) (d1.length : Int)).toNat).drop d2.toNat).length - (g.1)) (0, [], none, 0, mnil) (⟨by simp, by rfl, (Ow.nil TCommit mnil)⟩) ⟨⟨rfl, rfl, rfl, rfl, rfl, rfl, rfl, rfl, rfl, rfl, rfl, rfl, rfl, trivial⟩, fun _ h => h.sub [125, 110, 102, 0]⟩ ?_
            rintro ⟨k, cs, cs_A, cs_c, cs_m⟩ ⟨hk, hcs, h_cs⟩
            replace hk : k ≤ ((d1.take (min (d2 + 4) (d1.length : Int)).toNat).drop d2.toNat).length := hk
            replace hcs : cs = ((d1.take (min (d2 + 4) (d1.length : Int)).toNat).drop d2.toNat).take k := hcs
            replace h_cs : Ow (.sl TCommit) cs_m [.slice cs_A cs.length cs_c] cs := h_cs
            show VC _ _ _ _ _ [(54, Value.int .i64 (((k : Nat) : Int))), (0, Value.int .i64 (d0)), (1, Value.slice A1 (d1.length) (c1)), (2, Value.int .i64 (d2)), (6, Value.pointer (some ⟨g1, 0, none⟩)), (7, Value.int .i64 (0)), (8, Value.int .i64 (shipWrong d0 d1)), (9, Value.pointer (some ⟨g9, 0, none⟩)), (16, Value.bool (decide (¬ (shipWrong d0 d1) = 0))), (30, Value.bool (decide (d2 = 1048576))), (37, Value.bool (decide (0 < d2))), (52, Value.slice A24 (((min (d2 + 4) ((d1.length : Nat) : Int)).toNat) - ((d2).toNat)) (c1 - ((d2).toNat))), (53, Value.int .i64 (((((min (d2 + 4) ((d1.length : Nat) : Int)).toNat) - ((d2).toNat) : Nat) : Int)))] [(125, cs_m), (110, mone g9 (.cells [Value.int .i64 (2), Value.int .i64 (d0), Value.int .u8 (0), Value.int .i64 (0), Value.slice none (0) (0), Value.int .i64 (d2 + 1), Value.int .i64 (0), Value.slice cs_A (cs.length) (cs_c)].toArray 72 (0, 0))), (102, mone g1 (.cells [Value.int .i64 (0), Value.int .i64 (0), Value.int .u8 (0), Value.int .i64 (0), Value.slice none (0) (0), Value.int .i64 (0), Value.int .i64 (0), Value.slice none (0) (0)].toArray 72 (0, 0))), (0, wm W)]
            have l_cs : cs.length ≤ cs_c := by obtain ⟨_, _, he, hl, _⟩ := h_cs.slice; simp only [Value.slice.injEq] at he; omega
            have k_cs : cs_c ≤ 9223372036854775807 := by obtain ⟨_, _, he, _, hl⟩ := h_cs.slice; simp only [Value.slice.injEq, maxLen] at he hl; omega
            have hl0 : ((d1.take (min (d2 + 4) (d1.length : Int)).toNat).drop d2.toNat).length = min (d2.toNat + 4) d1.length - d2.toNat := by simp only [List.length_drop, List.length_take]; omega
            have hlc : cs.length ≤ k := by rw [hcs]; simp; omega
            refine VC.rs ?_
            refine VO.y rfl (.lss rfl rfl) ?_
            refine VO.k14 0 1 2 6 7 8 9 16 30 37 52 53 54 55 ?_
            refine VC.seq ?_
            refine VC.cond rfl (fun hc26 => ?_) (fun hc26 => ?_)
            · -- FFFFFT
              refine VC.skip ?_
              refine outN ?_
              refine VC.seq ?_
              refine VC.block ?_
              refine VC.rs ?_
              obtain ⟨x27, hx27⟩ : ∃ z_, ((d1.take ((min (d2 + 4) ((d1.length : Nat) : Int)).toNat)).drop ((d2).toNat))[k]? = some z_ := ⟨_, List.getElem?_eq_getElem (by first | omega | (simp only [List.length_append, List.length_nil, List.length_cons, List.length_take, List.length_drop] at *; omega) | (have := wrong_len ‹¬ ¬ shipWrong d0 d1 = 0›; omega) | exact next_room ‹¬ ¬ shipWrong d0 d1 = 0› ‹_›)⟩
              obtain ⟨gg27, oo27, ec27, ea27, hce27, hre27⟩ := hs24.elem hx27
              cases ea27
              obtain ⟨q27_A2, q27_c2, rfl, q27_0, q27_1, q27_2⟩ := open_Commit (x0 := x27.1) (x1 := x27.2.1) (x2 := x27.2.2) hre27
              simp only [inK] at q27_0
              simp only [inK] at q27_1
              have q27_r2 := Rd.room q27_2
              refine VO.y rfl (.ixI k rfl rfl tsl61 rfl (by first | omega | (simp only [List.length_append, List.length_nil, List.length_cons, List.length_take, List.length_drop] at *; omega) | (have := wrong_len ‹¬ ¬ shipWrong d0 d1 = 0›; omega) | exact next_room ‹¬ ¬ shipWrong d0 d1 = 0› ‹_›)) ?_
              refine VO.y rfl (.ldA 0 rfl tk52 rfl hce27) ?_
              refine VO.alloc 129 rfl tz52 (fun g28 => ?_)
              refine VO.store (k := 3) (c' := [Value.int .i64 (x27.1), Value.int .i64 (x27.2.1), Value.slice q27_A2 (x27.2.2.length) (q27_c2)]) 129 rfl rfl (.inl tk52) rfl rfl rfl rfl rfl ?_
              refine VO.keep [129, 125, 110, 102, 0] [(129, mone g28 (.cells [Value.int .i64 (x27.1), Value.int .i64 (x27.2.1), Value.slice q27_A2 (x27.2.2.length) (q27_c2)].toArray 52 (0, 0))), (125, cs_m), (110, mone g9 (.cells [Value.int .i64 (2), Value.int .i64 (d0), Value.int .u8 (0), Value.int .i64 (0), Value.slice none (0) (0), Value.int .i64 (d2 + 1), Value.int .i64 (0), Value.slice cs_A (cs.length) (cs_c)].toArray 72 (0, 0))), (102, mone g1 (.cells [Value.int .i64 (0), Value.int .i64 (0), Value.int .u8 (0), Value.int .i64 (0), Value.slice none (0) (0), Value.int .i64 (0), Value.int .i64 (0), Value.slice none (0) (0)].toArray 72 (0, 0))), (0, wm W)] (by kernel_rfl) ?_
              refine VO.k15 0 1 2 6 7 8 9 11 16 30 37 52 53 54 55 ?_
              refine VC.regD _ 5 [(0, true), (1, true), (2, true), (3, false), (4, false)] follows (by kernel_rfl) (fun _ h => h.sub [129, 125, 110, 102, 0]) ?_
              refine VD.y rfl rfl (.inl rfl) (.fa rfl tst72 rfl) ?_
              refine VD.y rfl rfl (.inl rfl) (.ld1 110 rfl tk61 rfl (cellsAt_one rfl rfl)) ?_
              refine VD.y rfl rfl (.inl rfl) (.ldA 129 rfl tk52 rfl (cellsAt_one rfl rfl)) ?_
              refine VD.callN 130 rfl rfl (.inl rfl) fnOk60 rfl (fun _ h => h.sub [129, 125, 110, 102, 0]) (fun W hW => cCopy_ok W (Rd.mono hre27 (hW.at (i := 0) rfl)) (by first | omega | (simp only [List.length_append, List.length_nil, List.length_cons, List.length_take, List.length_drop] at *; omega) | (have := wrong_len ‹¬ ¬ shipWrong d0 d1 = 0›; omega) | exact next_room ‹¬ ¬ shipWrong d0 d1 = 0› ‹_›)) (fun v30 m30 hv30 => ?_)
              obtain ⟨s30_0, rfl, f30_0⟩ := hv30
              obtain ⟨q30_0_A2, q30_0_c2, q30_0_n2, rfl, q30_0_S, q30_0_0, q30_0_1, q30_0_2⟩ := openO_Commit (x0 := x27.1) (x1 := x27.2.1) (x2 := x27.2.2) f30_0
              simp only [inK] at q30_0_0
              simp only [inK] at q30_0_1
              have q30_0_r2 := Rd.room (q30_0_2.rd (mle_refl _))
              refine VD.inv _ (fun _ h => h.parts (i := 130) rfl q30_0_S [131]) ?_
              refine VD.bsl (cs := [Value.int .i64 (x27.1), Value.int .i64 (x27.2.1), Value.slice q30_0_A2 (x27.2.2.length) (q30_0_c2)]) 133 rfl rfl rfl tsl61 tz52 rfl rfl (fun _ h => h.sub [129, 125, 110, 102, 0]) (fun g32 => ?_)
              refine VD.nil rfl ?_ rfl
              refine VO.appO (e := TCommit) 125 131 133 rfl rfl rfl tsl61 tz52 rfl rfl rfl rfl h_cs (show Ow TCommit _ _ x27 from (mkO_Commit x27.1 x27.2.1 x27.2.2 (Seps.one (mle_refl _)) (by simp only [inK]; (first | omega | (simp only [List.length_append, List.length_nil, List.length_cons, List.length_take, List.length_drop] at *; omega) | (have := wrong_len ‹¬ ¬ shipWrong d0 d1 = 0›; omega) | exact next_room ‹¬ ¬ shipWrong d0 d1 = 0› ‹_›)) (by simp only [inK]; (first | omega | (simp only [List.length_append, List.length_nil, List.length_cons, List.length_take, List.length_drop] at *; omega) | (have := wrong_len ‹¬ ¬ shipWrong d0 d1 = 0›; omega) | exact next_room ‹¬ ¬ shipWrong d0 d1 = 0› ‹_›)) (OwnL.ow (Ow.ownl q30_0_2 rfl mnil) rfl))) Try.underlying61 (cellsAt_one rfl rfl) (by simp only [maxLen]; (first | omega | (simp only [List.length_append, List.length_nil, List.length_cons, List.length_take, List.length_drop] at *; omega) | (have := wrong_len ‹¬ ¬ shipWrong d0 d1 = 0›; omega) | exact next_room ‹¬ ¬ shipWrong d0 d1 = 0› ‹_›)) (by first | omega | (simp only [List.length_append, List.length_nil, List.length_cons, List.length_take, List.length_drop] at *; omega) | (have := wrong_len ‹¬ ¬ shipWrong d0 d1 = 0›; omega) | exact next_room ‹¬ ¬ shipWrong d0 d1 = 0› ‹_›) (by decide) (fun v34 m34 ho34 => ?_)
              obtain ⟨A34, c34, rfl, l34, k34⟩ := ho34.slice
              simp only [maxLen] at k34
              refine VO.y rfl (.fa rfl tst72 rfl) ?_
              refine VO.store (k := 1) (c' := [Value.int .i64 (2), Value.int .i64 (d0), Value.int .u8 (0), Value.int .i64 (0), Value.slice none (0) (0), Value.int .i64 (d2 + 1), Value.int .i64 (0), Value.slice A34 ((cs ++ [x27]).length) (c34)]) 110 rfl rfl (.inr ⟨tk61, rfl⟩) rfl rfl rfl rfl rfl ?_
              refine VO.k15 0 1 2 6 7 8 9 11 16 30 37 52 53 54 55 ?_
              refine outBN ?_
              refine outN ?_
              refine VC.reg ?_
              refine VO.y rfl (.add (c := ((k + 1 : Nat) : Int)) rfl rfl (by omega) ⟨by first | omega | (simp only [List.length_append, List.length_nil, List.length_cons, List.length_take, List.length_drop] at *; omega) | (have := wrong_len ‹¬ ¬ shipWrong d0 d1 = 0›; omega) | exact next_room ‹¬ ¬ shipWrong d0 d1 = 0› ‹_›, by first | omega | (simp only [List.length_append, List.length_nil, List.length_cons, List.length_take, List.length_drop] at *; omega) | (have := wrong_len ‹¬ ¬ shipWrong d0 d1 = 0›; omega) | exact next_room ‹¬ ¬ shipWrong d0 d1 = 0› ‹_›⟩) ?_
              refine VO.mv ?_
              refine VO.k15 0 1 2 6 7 8 9 11 16 30 37 52 53 54 55 ?_
              exact outN ⟨⟨k + 1, cs ++ [x27], A34, c34, m34⟩, ⟨by simp only [List.length_drop, List.length_take]; omega, by rw [hcs]; exact (take_one ‹_›).symm, ho34⟩, by first | omega | (simp only [List.length_append, List.length_nil, List.length_cons, List.length_take, List.length_drop] at *; omega) | (have := wrong_len ‹¬ ¬ shipWrong d0 d1 = 0›; omega) | exact next_room ‹¬ ¬ shipWrong d0 d1 = 0› ‹_›, ⟨⟨rfl, rfl, rfl, rfl, rfl, rfl, rfl, rfl, rfl, rfl, rfl, rfl, rfl, trivial⟩, fun _ h => Inv.sub h [125, 110, 102, 0]⟩⟩
            · -- FFFFFF
              refine VC.exit ?_
              refine outE ?_
              refine outE ?_
              refine outBB ?_
              refine outN ?_
              refine VC.rs ?_
              refine VO.y rfl (.ldA 110 rfl tk72 rfl (cellsAt_one rfl rfl)) ?_
              refine VO.store (k := 8) (c' := [Value.int .i64 (2), Value.int .i64 (d0), Value.int .u8 (0), Value.int .i64 (0), Value.slice none (0) (0), Value.int .i64 (d2 + 1), Value.int .i64 (0), Value.slice cs_A (cs.length) (cs_c)]) 102 rfl rfl (.inl tk72) rfl rfl rfl rfl rfl ?_
              refine VO.as ?_
              refine VO.keep [125, 110, 102, 0] [(125, cs_m), (110, mone g9 (.cells [Value.int .i64 (2), Value.int .i64 (d0), Value.int .u8 (0), Value.int .i64 (0), Value.slice none (0) (0), Value.int .i64 (d2 + 1), Value.int .i64 (0), Value.slice cs_A (cs.length) (cs_c)].toArray 72 (0, 0))), (102, mone g1 (.cells [Value.int .i64 (2), Value.int .i64 (d0), Value.int .u8 (0), Value.int .i64 (0), Value.slice none (0) (0), Value.int .i64 (d2 + 1), Value.int .i64 (0), Value.slice cs_A (cs.length) (cs_c)].toArray 72 (0, 0))), (0, wm W)] (by kernel_rfl) ?_
              refine VO.k14 0 1 2 6 7 8 9 16 30 37 52 53 54 55 ?_
              refine VC.ret ?_
              refine ⟨_, _, res_run (rs := [.cell 6 72, .tmp 7]) rfl (.agg 102 rfl tk72 rfl ⟨_, _, _, mone_self _ _, Nat.le_of_ble_eq_true rfl, rfl⟩ (.tmp rfl .nil)), fun W_ hI => out_of (l := [cs_m]) hI [125] rfl rfl (mle_refl _) (fun hS_ => ?_)⟩
              dsimp only [packV]
              have he0 : ((shipNext d0 d1 d2).1 : Ty.Den TMessage) = (2, d0, 0, 0, [], d2 + 1, 0, cs) := by first | rfl | (first | (rw [next_wrong ‹_›]; rfl) | (rw [next_arg ‹¬ ¬ _› (by omega)]; rfl) | (have hcs2 := hcs.trans ((List.take_of_length_le (by omega)).trans (next_list _ _ ‹_› ‹_›)); rw [next_good ‹¬ ¬ _› ‹_› ‹_› ‹_›, ← hcs2]; first | rw [prevOf_pos ‹0 < d2› ‹_›] | rw [prevOf_zero ‹_›]))
              refine ⟨[Value.int .i64 (2), Value.int .i64 (d0), Value.int .u8 (0), Value.int .i64 (0), Value.slice none (0) (0), Value.int .i64 (d2 + 1), Value.int .i64 (0), Value.slice cs_A (cs.length) (cs_c)], ?_, ?_⟩
              rotate_left
              · rw [he0]; exact (mkO_Message 2 d0 0 0 [] (d2 + 1) 0 cs (Seps.nilAt 0 hS_) (by simp only [inK]; (first | omega | (simp only [List.length_append, List.length_nil, List.length_cons, List.length_take, List.length_drop] at *; omega) | (have := wrong_len ‹¬ ¬ shipWrong d0 d1 = 0›; omega) | exact next_room ‹¬ ¬ shipWrong d0 d1 = 0› ‹_›)) (by simp only [inK]; (first | omega | (simp only [List.length_append, List.length_nil, List.length_cons, List.length_take, List.length_drop] at *; omega) | (have := wrong_len ‹¬ ¬ shipWrong d0 d1 = 0›; omega) | exact next_room ‹¬ ¬ shipWrong d0 d1 = 0› ‹_›)) (by simp only [inK]; (first | omega | (simp only [List.length_append, List.length_nil, List.length_cons, List.length_take, List.length_drop] at *; omega) | (have := wrong_len ‹¬ ¬ shipWrong d0 d1 = 0›; omega) | exact next_room ‹¬ ¬ shipWrong d0 d1 = 0› ‹_›)) (by simp only [inK]; (first | omega | (simp only [List.length_append, List.length_nil, List.length_cons, List.length_take, List.length_drop] at *; omega) | (have := wrong_len ‹¬ ¬ shipWrong d0 d1 = 0›; omega) | exact next_room ‹¬ ¬ shipWrong d0 d1 = 0› ‹_›)) (Ow.nil _ _) (by simp only [inK]; (first | omega | (simp only [List.length_append, List.length_nil, List.length_cons, List.length_take, List.length_drop] at *; omega) | (have := wrong_len ‹¬ ¬ shipWrong d0 d1 = 0›; omega) | exact next_room ‹¬ ¬ shipWrong d0 d1 = 0› ‹_›)) (by simp only [inK]; (first | omega | (simp only [List.length_append, List.length_nil, List.length_cons, List.length_take, List.length_drop] at *; omega) | (have := wrong_len ‹¬ ¬ shipWrong d0 d1 = 0›; omega) | exact next_room ‹¬ ¬ shipWrong d0 d1 = 0› ‹_›)) h_cs)
              all_goals (first | rfl | (first | (rw [next_wrong ‹_›]; rfl) | (rw [next_arg ‹¬ ¬ _› (by omega)]; rfl) | (rw [next_good ‹¬ ¬ _› ‹_› ‹_› ‹_›]; rfl)))
end
section
set_option linter.unusedVariables false
def epochAt (l : List DCommit) (n : Int) : Int := match l[n.toNat]? with
  | some c => c.1
  | none => 0
def fitsM (l : List DCommit) (m : DMessage) : Prop := (1 < m.2.2.2.2.2.1 → epochAt l (m.2.2.2.2.2.1 - 2) = m.2.2.2.2.2.2.1) ∧ ∀ c ∈ m.2.2.2.2.2.2.2, c.2.1 ≤ l.length → epochAt l (c.2.1 - 1) = c.1
instance (l : List DCommit) (m : DMessage) : Decidable (fitsM l m) := by unfold fitsM; infer_instance
end
section
set_option linter.unusedVariables false
set_option linter.unusedSimpArgs false
set_option maxRecDepth 4000
theorem small17_ok (W : World) {v0 : Value} {d0 : List DCommit} (h0 : Rd (.sl TCommit) (wm W) [v0] d0) : CallR Try.prog 72 [v0] W (mnil) (fun v m' => v = .bool (decide ((∀ c ∈ d0, c.2.2.length ≤ 40) ∧ d0.length ≤ 40))) := by
  obtain ⟨A0, c0, rfl, l0, k0⟩ := h0.slice
  simp only [maxLen] at k0
  refine CallR.ofA (n := 20) Try.func72 rfl rfl rfl ?_
  refine VC.rs ?_
  refine VO.as ?_
  refine VO.k2 0 2 ?_
  refine VC.seq ?_
  refine VC.rs ?_
  refine VO.as ?_
  refine VO.k3 0 2 3 ?_
  refine VC.block ?_
  refine VC.loop (G := Nat) (fun k => [(3, Value.int .i64 (((k : Nat) : Int))), (0, Value.slice A0 (d0.length) (c0))]) (fun k => [(0, wm W)]) (fun k => (k ≤ d0.length) ∧ (∀ c ∈ d0.take k, c.2.2.length ≤ 40)) (fun k => d0.length - k) 0 (⟨by omega, by simp⟩) ⟨⟨rfl, rfl, trivial⟩, fun _ h => h.sub [0]⟩ ?_
  rintro k ⟨hk, ha⟩
  refine VC.seq ?_
  refine VC.rs ?_
  refine VO.mv ?_
  refine VO.mv ?_
  refine VO.y rfl (.lenS rfl tsl61) ?_
  refine VO.y rfl (.lss rfl rfl) ?_
  refine VO.keep [0] [(0, wm W)] (by kernel_rfl) ?_
  refine VO.k3 0 3 7 ?_
  refine VC.cond rfl (fun hc1 => ?_) (fun hc1 => ?_)
  · -- T
    refine VC.skip ?_
    refine outN ?_
    refine VC.seq ?_
    refine VC.block ?_
    refine VC.rs ?_
    refine VO.mv ?_
    refine VO.mv ?_
    obtain ⟨x2, hx2⟩ : ∃ z_, (d0)[k]? = some z_ := ⟨_, List.getElem?_eq_getElem bd⟩
    obtain ⟨gg2, oo2, ec2, ea2, hce2, hre2⟩ := h0.elem hx2
    cases ea2
    obtain ⟨q2_A2, q2_c2, rfl, q2_0, q2_1, q2_2⟩ := open_Commit (x0 := x2.1) (x1 := x2.2.1) (x2 := x2.2.2) hre2
    simp only [inK] at q2_0
    simp only [inK] at q2_1
    have q2_r2 := Rd.room q2_2
    refine VO.y rfl (.ixI k rfl rfl tsl61 rfl bd) ?_
    refine VO.y rfl (.fa rfl tst52 rfl) ?_
    refine VO.y rfl (.ld1 0 rfl tk22 rfl (hce2.at1 (j := 2) rfl)) ?_
    refine VO.y rfl (.lenS rfl tsl22) ?_
    refine VO.y rfl (.gtr rfl rfl) ?_
    refine VO.k4 0 3 7 16 ?_
    refine VC.cond rfl (fun hc3 => ?_) (fun hc3 => ?_)
    · -- TT
      refine VC.rs ?_
      refine VO.as ?_
      refine VO.k5 0 2 3 7 16 ?_
      refine VC.ret ?_
      refine outBR ?_
      refine outR ?_
      refine outR ?_
      refine outBR ?_
      refine outR ?_
      refine ⟨_, _, res_run (rs := [.tmp 2]) rfl (.tmp rfl .nil), fun W_ hI => out_of (l := []) hI [] rfl rfl (mle_refl _) (fun hS_ => ?_)⟩
      dsimp only [packV]
      all_goals (first | rfl | (first | exact congrArg Value.bool (decide_eq_false (fun e => by have := e.1 _ (List.mem_of_getElem? ‹d0[k]? = some _›); omega)).symm | exact congrArg Value.bool (decide_eq_decide.2 (by have ha2 := ha; rw [List.take_of_length_le (by omega)] at ha2; exact ⟨fun h => ⟨ha2, by omega⟩, fun h => by omega⟩))))
    · -- TF
      refine VC.skip ?_
      refine outBN ?_
      refine outN ?_
      refine VC.reg ?_
      refine VO.mv ?_
      refine VO.y rfl (.add (c := ((k + 1 : Nat) : Int)) rfl rfl (by omega) ⟨bd, bd⟩) ?_
      refine VO.as ?_
      refine VO.k4 0 3 7 16 ?_
      exact outN ⟨k + 1, ⟨by omega, by exact all_next ha ‹d0[k]? = some _› (by omega)⟩, bd, ⟨⟨rfl, rfl, trivial⟩, fun _ h => Inv.sub h [0]⟩⟩
  · -- F
    refine VC.exit ?_
    refine outE ?_
    refine outE ?_
    refine outBB ?_
    refine outN ?_
    refine VC.rs ?_
    refine VO.mv ?_
    refine VO.y rfl (.lenS rfl tsl61) ?_
    refine VO.y rfl (.leq rfl rfl) ?_
    refine VO.as ?_
    refine VO.k4 0 2 3 7 ?_
    refine VC.ret ?_
    refine ⟨_, _, res_run (rs := [.tmp 2]) rfl (.tmp rfl .nil), fun W_ hI => out_of (l := []) hI [] rfl rfl (mle_refl _) (fun hS_ => ?_)⟩
    dsimp only [packV]
    all_goals (first | rfl | (first | exact congrArg Value.bool (decide_eq_false (fun e => by have := e.1 _ (List.mem_of_getElem? ‹d0[k]? = some _›); omega)).symm | exact congrArg Value.bool (decide_eq_decide.2 (by have ha2 := ha; rw [List.take_of_length_le (by omega)] at ha2; exact ⟨fun h => ⟨ha2, by omega⟩, fun h => by omega⟩))))
end
section
set_option linter.unusedVariables false
theorem follows_cons {e n i : Int} {c : DCommit} {r : List DCommit} (h : (cFollowsAt e n i (c :: r)).1 = 0) : cCheck c = 0 ∧ c.2.1 = n + 1 ∧ e ≤ c.1 ∧ (cFollowsAt c.1 c.2.1 (i + 1) r).1 = 0 := by
  unfold cFollowsAt at h
  split at h
  · exact absurd h (by assumption)
  · rename_i h1
    split at h
    · cases h
    · exact ⟨Decidable.not_not.1 h1, by omega, by omega, h⟩
end
section
set_option linter.unusedVariables false
theorem follows_zero : ∀ {l : List DCommit} {e n i : Int}, (cFollowsAt e n i l).1 = 0 → cFollowsAt e n i l = (0, 0)
  | [], _, _, _, _ => rfl
  | c :: r, e, n, i, h => by
    obtain ⟨h1, h2, h3, h4⟩ := follows_cons h
    unfold cFollowsAt
    rw [if_neg (by omega), if_neg (by omega)]
    exact follows_zero h4
end
section
set_option linter.unusedVariables false
set_option linter.unusedSimpArgs false
set_option maxRecDepth 4000
theorem fnOk110 : fnOk Try.prog 110 = true := by kernel_rfl
theorem fnOk56 : fnOk Try.prog 56 = true := by kernel_rfl
theorem CopyCommit_ok (W : World) {v0 : List Value} {d0 : DCommit} (h0 : Rd TCommit (wm W) v0 d0) (e0 : d0.2.2.length ≤ 3518437208800) : CallR Try.prog 110 [.agg v0.toArray] W (mnil) (fun v m' => ∃ (s0 : List Value), v = .agg s0.toArray ∧ Ow TCommit m' s0 (d0)) := by
  obtain ⟨p0_A2, p0_c2, rfl, p0_0, p0_1, p0_2⟩ := open_Commit (x0 := d0.1) (x1 := d0.2.1) (x2 := d0.2.2) h0
  simp only [inK] at p0_0
  simp only [inK] at p0_1
  have p0_r2 := Rd.room p0_2
  refine CallR.ofA (n := 11) Try.func110 rfl rfl rfl ?_
  refine VC.rs ?_
  refine VO.box (cs := [Value.int .i64 (d0.1), Value.int .i64 (d0.2.1), Value.slice p0_A2 (d0.2.2.length) (p0_c2)]) 102 rfl rfl rfl (fun g1 => ?_)
  refine VO.alloc 104 rfl tz52 (fun g3 => ?_)
  refine VO.k3 0 1 2 ?_
  refine VC.seq ?_
  refine VC.regD _ 7 [(0, true), (1, true), (2, true), (3, true), (4, true), (5, true), (6, false)] follows (by kernel_rfl) (fun _ h => h.sub [104, 102, 0]) ?_
  refine VD.y rfl rfl (.inl rfl) (.fa rfl tst52 rfl) ?_
  refine VD.y rfl rfl (.inl rfl) (.ld1 102 rfl tk3 rfl (cellsAt_one rfl rfl)) ?_
  refine VD.y rfl rfl (.inl rfl) (.fa rfl tst52 rfl) ?_
  refine VD.y rfl rfl (.inl rfl) (.ld1 102 rfl tk3 rfl (cellsAt_one rfl rfl)) ?_
  refine VD.y rfl rfl (.inl rfl) (.fa rfl tst52 rfl) ?_
  refine VD.y rfl rfl (.inl rfl) (.ld1 102 rfl tk22 rfl (cellsAt_one rfl rfl)) ?_
  refine VD.callN 105 rfl rfl (.inl rfl) fnOk96 rfl (fun _ h => h.sub [104, 102, 0]) (fun W hW => CopyOps_ok W (Rd.mono p0_2 (hW.at (i := 0) rfl)) bd) (fun v5 m5 hv5 => ?_)
  obtain ⟨s5_0, rfl, f5_0⟩ := hv5
  obtain ⟨A5_0, c5_0, eq5_0, l5_0, k5_0⟩ := f5_0.slice
  subst eq5_0
  simp only [maxLen] at k5_0
  refine VD.nil rfl ?_ rfl
  refine VO.y rfl (.bst (cs := [Value.int .i64 (d0.1), Value.int .i64 (d0.2.1), Value.slice A5_0 (d0.2.2.length) (c5_0)]) rfl tst52 tz52 rfl) ?_
  refine VO.store (k := 3) (c' := [Value.int .i64 (d0.1), Value.int .i64 (d0.2.1), Value.slice A5_0 (d0.2.2.length) (c5_0)]) 104 rfl rfl (.inl tk52) rfl rfl rfl rfl rfl ?_
  refine VO.k3 0 1 2 ?_
  refine outN ?_
  refine VC.ret ?_
  refine ⟨_, _, res_run (rs := [.cell 2 52]) rfl (.agg 104 rfl tk52 rfl ⟨_, _, _, mone_self _ _, Nat.le_of_ble_eq_true rfl, rfl⟩ .nil), fun W_ hI => out_of (l := [m5]) hI [105] rfl rfl (mle_refl _) (fun hS_ => ?_)⟩
  dsimp only [packV]
  have he0 : (d0 : Ty.Den TCommit) = d0 := by first | rfl | (simp [*]; done)
  refine ⟨[Value.int .i64 (d0.1), Value.int .i64 (d0.2.1), Value.slice A5_0 (d0.2.2.length) (c5_0)], ?_, ?_⟩
  rotate_left
  · rw [he0]; exact (show Ow TCommit _ _ d0 from (mkO_Commit d0.1 d0.2.1 d0.2.2 hS_ bdk bdk (OwnL.ow (Ow.ownl f5_0 rfl mnil) rfl)))
  all_goals (first | rfl | (simp [*]; done))
theorem CopyCommits_ok (W : World) {v0 : Value} {d0 : List DCommit} (h0 : Rd (.sl TCommit) (wm W) [v0] d0) (e0 : d0.length ≤ 3518437200000) (e1 : ∀ c ∈ d0, c.2.2.length ≤ 3518437208800) : CallR Try.prog 56 [v0] W (mnil) (fun v m' => ∃ (s0 : Value), v = s0 ∧ Ow (.sl TCommit) m' [s0] (d0)) := by
  obtain ⟨A0, c0, rfl, l0, k0⟩ := h0.slice
  simp only [maxLen] at k0
  refine CallR.ofA (n := 20) Try.func56 rfl rfl rfl ?_
  refine VC.rs ?_
  refine VO.as ?_
  refine VO.k2 0 2 ?_
  refine VC.rs ?_
  refine VO.as ?_
  refine VO.k3 0 2 3 ?_
  refine VC.seq ?_
  refine VC.rs ?_
  refine VO.as ?_
  refine VO.keep [0] [(0, wm W)] (by kernel_rfl) ?_
  refine VO.k4 0 2 3 4 ?_
  refine VC.block ?_
  refine VC.inv ((101, mnil) :: _) (fun _ h => h.nilc 101) ?_
  refine VC.loop (G := Nat × (List DCommit) × (Option Addr) × Nat × Mem) (fun g => [(3, Value.slice (g.2.2.1) ((g.2.1).length) ((g.2.2.2.1))), (4, Value.int .i64 ((((g.1) : Nat) : Int))), (0, Value.slice A0 (d0.length) (c0)), (2, Value.slice none (0) (0))]) (fun g => [(101, (g.2.2.2.2)), (0, wm W)]) (fun g => ((g.1) ≤ d0.length) ∧ ((g.2.1) = d0.take (g.1)) ∧ (Ow (.sl TCommit) (g.2.2.2.2) [.slice (g.2.2.1) (g.2.1).length (g.2.2.2.1)] (g.2.1))) (fun g => d0.length - (g.1)) (0, [], none, 0, mnil) (⟨by omega, by rfl, (Ow.nil TCommit mnil)⟩) ⟨⟨rfl, rfl, rfl, rfl, trivial⟩, fun _ h => h.sub [101, 0]⟩ ?_
  rintro ⟨k, out, out_A, out_c, out_m⟩ ⟨hk, ho, h_out⟩
  replace hk : k ≤ d0.length := hk
  replace ho : out = d0.take k := ho
  replace h_out : Ow (.sl TCommit) out_m [.slice out_A out.length out_c] out := h_out
  show VC _ _ _ _ _ [(3, Value.slice out_A (out.length) (out_c)), (4, Value.int .i64 (((k : Nat) : Int))), (0, Value.slice A0 (d0.length) (c0)), (2, Value.slice none (0) (0))] [(101, out_m), (0, wm W)]
  have l_out : out.length ≤ out_c := by obtain ⟨_, _, he, hl, _⟩ := h_out.slice; simp only [Value.slice.injEq] at he; omega
  have k_out : out_c ≤ 9223372036854775807 := by obtain ⟨_, _, he, _, hl⟩ := h_out.slice; simp only [Value.slice.injEq, maxLen] at he hl; omega
  have hlo : out.length ≤ k := by rw [ho]; simp; omega
  refine VC.seq ?_
  refine VC.rs ?_
  refine VO.mv ?_
  refine VO.mv ?_
  refine VO.y rfl (.lenS rfl tsl61) ?_
  refine VO.y rfl (.lss rfl rfl) ?_
  refine VO.k5 0 2 3 4 8 ?_
  refine VC.cond rfl (fun hc2 => ?_) (fun hc2 => ?_)
  · -- T
    refine VC.skip ?_
    refine outN ?_
    refine VC.seq ?_
    refine VC.block ?_
    refine VC.reg ?_
    refine VO.mv ?_
    refine VO.mv ?_
    refine VO.mv ?_
    obtain ⟨x3, hx3⟩ : ∃ z_, (d0)[k]? = some z_ := ⟨_, List.getElem?_eq_getElem (by first | omega | (simp only [List.length_append, List.length_nil, List.length_cons, List.length_take, List.length_drop] at *; omega) | exact e1 _ (List.mem_of_getElem? ‹d0[_]? = some _›))⟩
    obtain ⟨gg3, oo3, ec3, ea3, hce3, hre3⟩ := h0.elem hx3
    cases ea3
    obtain ⟨q3_A2, q3_c2, rfl, q3_0, q3_1, q3_2⟩ := open_Commit (x0 := x3.1) (x1 := x3.2.1) (x2 := x3.2.2) hre3
    simp only [inK] at q3_0
    simp only [inK] at q3_1
    have q3_r2 := Rd.room q3_2
    refine VO.y rfl (.ixI k rfl rfl tsl61 rfl (by first | omega | (simp only [List.length_append, List.length_nil, List.length_cons, List.length_take, List.length_drop] at *; omega) | exact e1 _ (List.mem_of_getElem? ‹d0[_]? = some _›))) ?_
    refine VO.y rfl (.ldA 0 rfl tk52 rfl hce3) ?_
    refine VO.callN 104 rfl fnOk110 rfl (fun W hW => CopyCommit_ok W (Rd.mono hre3 (hW.at (i := 0) rfl)) (by first | omega | (simp only [List.length_append, List.length_nil, List.length_cons, List.length_take, List.length_drop] at *; omega) | exact e1 _ (List.mem_of_getElem? ‹d0[_]? = some _›))) (fun v4 m4 hv4 => ?_)
    obtain ⟨s4_0, rfl, f4_0⟩ := hv4
    obtain ⟨q4_0_A2, q4_0_c2, q4_0_n2, rfl, q4_0_S, q4_0_0, q4_0_1, q4_0_2⟩ := openO_Commit (x0 := x3.1) (x1 := x3.2.1) (x2 := x3.2.2) f4_0
    simp only [inK] at q4_0_0
    simp only [inK] at q4_0_1
    have q4_0_r2 := Rd.room (q4_0_2.rd (mle_refl _))
    refine VO.inv _ (fun _ h => h.parts (i := 104) rfl q4_0_S [105]) ?_
    refine VO.bsl (cs := [Value.int .i64 (x3.1), Value.int .i64 (x3.2.1), Value.slice q4_0_A2 (x3.2.2.length) (q4_0_c2)]) 107 rfl rfl tsl61 tz52 rfl rfl (fun g6 => ?_)
    refine VO.appO (e := TCommit) 101 105 107 rfl rfl rfl tsl61 tz52 rfl rfl rfl rfl h_out (show Ow TCommit _ _ x3 from (mkO_Commit x3.1 x3.2.1 x3.2.2 (Seps.one (mle_refl _)) (by simp only [inK]; (first | omega | (simp only [List.length_append, List.length_nil, List.length_cons, List.length_take, List.length_drop] at *; omega) | exact e1 _ (List.mem_of_getElem? ‹d0[_]? = some _›))) (by simp only [inK]; (first | omega | (simp only [List.length_append, List.length_nil, List.length_cons, List.length_take, List.length_drop] at *; omega) | exact e1 _ (List.mem_of_getElem? ‹d0[_]? = some _›))) (OwnL.ow (Ow.ownl q4_0_2 rfl mnil) rfl))) Try.underlying61 (cellsAt_one rfl rfl) (by simp only [maxLen]; (first | omega | (simp only [List.length_append, List.length_nil, List.length_cons, List.length_take, List.length_drop] at *; omega) | exact e1 _ (List.mem_of_getElem? ‹d0[_]? = some _›))) (by first | omega | (simp only [List.length_append, List.length_nil, List.length_cons, List.length_take, List.length_drop] at *; omega) | exact e1 _ (List.mem_of_getElem? ‹d0[_]? = some _›)) (by decide) (fun v8 m8 ho8 => ?_)
    obtain ⟨A8, c8, rfl, l8, k8⟩ := ho8.slice
    simp only [maxLen] at k8
    refine VO.as ?_
    refine VO.k5 0 2 3 4 8 ?_
    refine outBN ?_
    refine outN ?_
    refine VC.reg ?_
    refine VO.mv ?_
    refine VO.y rfl (.add (c := ((k + 1 : Nat) : Int)) rfl rfl (by omega) ⟨by first | omega | (simp only [List.length_append, List.length_nil, List.length_cons, List.length_take, List.length_drop] at *; omega) | exact e1 _ (List.mem_of_getElem? ‹d0[_]? = some _›), by first | omega | (simp only [List.length_append, List.length_nil, List.length_cons, List.length_take, List.length_drop] at *; omega) | exact e1 _ (List.mem_of_getElem? ‹d0[_]? = some _›)⟩) ?_
    refine VO.as ?_
    refine VO.keep [101, 0] [(101, m8), (0, wm W)] (by kernel_rfl) ?_
    refine VO.k5 0 2 3 4 8 ?_
    exact outN ⟨⟨k + 1, out ++ [x3], A8, c8, m8⟩, ⟨by omega, by rw [ho]; exact (take_one ‹_›).symm, ho8⟩, by first | omega | (simp only [List.length_append, List.length_nil, List.length_cons, List.length_take, List.length_drop] at *; omega) | exact e1 _ (List.mem_of_getElem? ‹d0[_]? = some _›), ⟨⟨rfl, rfl, rfl, rfl, trivial⟩, fun _ h => Inv.sub h [101, 0]⟩⟩
  · -- F
    refine VC.exit ?_
    refine outE ?_
    refine outE ?_
    refine outBB ?_
    refine outN ?_
    refine VC.rs ?_
    refine VO.mv ?_
    refine VO.as ?_
    refine VO.k5 0 2 3 4 8 ?_
    refine VC.ret ?_
    refine ⟨_, _, res_run (rs := [.tmp 2]) rfl (.tmp rfl .nil), fun W_ hI => out_of (l := [out_m]) hI [101] rfl rfl (mle_refl _) (fun hS_ => ?_)⟩
    dsimp only [packV]
    have he0 : (d0 : Ty.Den (.sl TCommit)) = out := by first | rfl | (rw [ho, List.take_of_length_le (by omega)])
    refine ⟨Value.slice out_A (out.length) (out_c), ?_, ?_⟩
    rotate_left
    · rw [he0]; exact (Ow.up h_out (hS_.1 _ (.head _)))
    all_goals (first | rfl | (simp [*]; done))
end
section
set_option linter.unusedVariables false
set_option linter.unusedSimpArgs false
set_option maxRecDepth 4000
theorem fnOk32 : fnOk Try.prog 32 = true := by kernel_rfl
theorem fnOk99 : fnOk Try.prog 99 = true := by kernel_rfl
theorem rbCheck_ok (W : World) {v0 : Value} {d0 : List DOp} (h0 : Rd (.sl TOp) (wm W) [v0] d0) : CallR Try.prog 32 [v0] W (mnil) (fun v m' => v = .int .i64 (batchCheck d0)) := by
  obtain ⟨A0, c0, rfl, l0, k0⟩ := h0.slice
  simp only [maxLen] at k0
  refine CallR.ofA (n := 25) Try.func32 rfl rfl rfl ?_
  refine VC.rs ?_
  refine VO.as ?_
  refine VO.k2 0 2 ?_
  refine VC.seq ?_
  refine VC.rs ?_
  refine VO.mv ?_
  refine VO.y rfl (.lenS rfl tsl22) ?_
  refine VO.y rfl (.eql rfl rfl) ?_
  refine VO.k3 0 2 7 ?_
  refine VC.cond rfl (fun hc1 => ?_) (fun hc1 => ?_)
  · -- T
    refine VC.rs ?_
    refine VO.as ?_
    refine VO.keep [0] [(0, wm W)] (by kernel_rfl) ?_
    refine VO.k3 0 2 7 ?_
    refine VC.ret ?_
    refine outR ?_
    refine ⟨_, _, res_run (rs := [.tmp 2]) rfl (.tmp rfl .nil), fun W_ hI => out_of (l := []) hI [] rfl rfl (mle_refl _) (fun hS_ => ?_)⟩
    dsimp only [packV]
    all_goals (first | rfl | (congr 1; first | exact (bcheck_empty ‹_›).symm | exact (bcheck_long ‹_›).symm | exact (bcheck_bad ‹_› ‹_› ‹d0[k]? = some _› ‹_›).symm | exact (bcheck_good ‹¬ (d0.length : Int) = 0› ‹¬ (8 : Int) < d0.length› ha ‹_›).symm))
  · -- F
    refine VC.skip ?_
    refine outN ?_
    refine VC.seq ?_
    refine VC.rs ?_
    refine VO.mv ?_
    refine VO.y rfl (.lenS rfl tsl22) ?_
    refine VO.y rfl (.gtr rfl rfl) ?_
    refine VO.keep [0] [(0, wm W)] (by kernel_rfl) ?_
    refine VO.k4 0 2 7 10 ?_
    refine VC.cond rfl (fun hc2 => ?_) (fun hc2 => ?_)
    · -- FT
      refine VC.rs ?_
      refine VO.as ?_
      refine VO.k4 0 2 7 10 ?_
      refine VC.ret ?_
      refine outR ?_
      refine ⟨_, _, res_run (rs := [.tmp 2]) rfl (.tmp rfl .nil), fun W_ hI => out_of (l := []) hI [] rfl rfl (mle_refl _) (fun hS_ => ?_)⟩
      dsimp only [packV]
      all_goals (first | rfl | (congr 1; first | exact (bcheck_empty ‹_›).symm | exact (bcheck_long ‹_›).symm | exact (bcheck_bad ‹_› ‹_› ‹d0[k]? = some _› ‹_›).symm | exact (bcheck_good ‹¬ (d0.length : Int) = 0› ‹¬ (8 : Int) < d0.length› ha ‹_›).symm))
    · -- FF
      refine VC.skip ?_
      refine outN ?_
      refine VC.seq ?_
      refine VC.rs ?_
      refine VO.as ?_
      refine VO.k5 0 2 3 7 10 ?_
      refine VC.block ?_
      refine VC.loop (G := Nat) (fun k => [(3, Value.int .i64 (((k : Nat) : Int))), (0, Value.slice A0 (d0.length) (c0)), (7, Value.bool (decide (((d0.length : Nat) : Int) = 0))), (10, Value.bool (decide (8 < ((d0.length : Nat) : Int))))]) (fun k => [(0, wm W)]) (fun k => (k ≤ d0.length) ∧ (∀ o ∈ d0.take k, opOk o)) (fun k => d0.length - k) 0 (⟨by omega, by simp⟩) ⟨⟨rfl, rfl, rfl, rfl, trivial⟩, fun _ h => h.sub [0]⟩ ?_
      rintro k ⟨hk, ha⟩
      refine VC.seq ?_
      refine VC.rs ?_
      refine VO.mv ?_
      refine VO.mv ?_
      refine VO.y rfl (.lenS rfl tsl22) ?_
      refine VO.y rfl (.lss rfl rfl) ?_
      refine VO.k5 0 3 7 10 14 ?_
      refine VC.cond rfl (fun hc3 => ?_) (fun hc3 => ?_)
      · -- FFT
        refine VC.skip ?_
        refine outN ?_
        refine VC.seq ?_
        refine VC.block ?_
        refine VC.rs ?_
        refine VO.mv ?_
        refine VO.mv ?_
        obtain ⟨x4, hx4⟩ : ∃ z_, (d0)[k]? = some z_ := ⟨_, List.getElem?_eq_getElem bd⟩
        obtain ⟨gg4, oo4, ec4, ea4, hce4, hre4⟩ := h0.elem hx4
        cases ea4
        obtain ⟨rfl, q4_1, q4_2⟩ := open_Op (x0 := x4.1) (x1 := x4.2.1) (x2 := x4.2.2) hre4
        simp only [maxLen] at q4_1
        simp only [maxLen] at q4_2
        refine VO.y rfl (.ixI k rfl rfl tsl22 rfl bd) ?_
        refine VO.y rfl (.ldA 0 rfl tk49 rfl hce4) ?_
        refine VO.callN 105 rfl fnOk99 rfl (fun W hW => refOpCheck_ok W (Rd.mono hre4 (hW.at (i := 0) rfl))) (fun v5 m5 hv5 => ?_)
        subst hv5
        refine VO.as ?_
        refine VO.keep [0] [(0, wm W)] (by kernel_rfl) ?_
        refine VO.k6 0 3 4 7 10 14 ?_
        refine VC.rs ?_
        refine VO.mv ?_
        refine VO.y rfl (.neq rfl rfl) ?_
        refine VO.k7 0 3 4 7 10 14 23 ?_
        refine VC.cond rfl (fun hc6 => ?_) (fun hc6 => ?_)
        · -- FFTT
          refine VC.rs ?_
          refine VO.mv ?_
          refine VO.as ?_
          refine VO.k8 0 2 3 4 7 10 14 23 ?_
          refine VC.ret ?_
          refine outBR ?_
          refine outR ?_
          refine outR ?_
          refine outBR ?_
          refine outR ?_
          refine ⟨_, _, res_run (rs := [.tmp 2]) rfl (.tmp rfl .nil), fun W_ hI => out_of (l := []) hI [] rfl rfl (mle_refl _) (fun hS_ => ?_)⟩
          dsimp only [packV]
          all_goals (first | rfl | (congr 1; first | exact (bcheck_empty ‹_›).symm | exact (bcheck_long ‹_›).symm | exact (bcheck_bad ‹_› ‹_› ‹d0[k]? = some _› ‹_›).symm | exact (bcheck_good ‹¬ (d0.length : Int) = 0› ‹¬ (8 : Int) < d0.length› ha ‹_›).symm))
        · -- FFTF
          refine VC.skip ?_
          refine outBN ?_
          refine outN ?_
          refine VC.reg ?_
          refine VO.mv ?_
          refine VO.y rfl (.add (c := ((k + 1 : Nat) : Int)) rfl rfl (by omega) ⟨bd, bd⟩) ?_
          refine VO.as ?_
          refine VO.k7 0 3 4 7 10 14 23 ?_
          exact outN ⟨k + 1, ⟨by omega, by exact all_next ha ‹d0[k]? = some _› (opOk_of (Decidable.not_not.1 ‹¬ ¬ _›))⟩, bd, ⟨⟨rfl, rfl, rfl, rfl, trivial⟩, fun _ h => Inv.sub h [0]⟩⟩
      · -- FFF
        refine VC.exit ?_
        refine outE ?_
        refine outE ?_
        refine outBB ?_
        refine outN ?_
        refine VC.rs ?_
        refine VO.as ?_
        refine VO.keep [0] [(0, wm W)] (by kernel_rfl) ?_
        refine VO.k6 0 2 3 7 10 14 ?_
        refine VC.ret ?_
        refine ⟨_, _, res_run (rs := [.tmp 2]) rfl (.tmp rfl .nil), fun W_ hI => out_of (l := []) hI [] rfl rfl (mle_refl _) (fun hS_ => ?_)⟩
        dsimp only [packV]
        all_goals (first | rfl | (congr 1; first | exact (bcheck_empty ‹_›).symm | exact (bcheck_long ‹_›).symm | exact (bcheck_bad ‹_› ‹_› ‹d0[k]? = some _› ‹_›).symm | exact (bcheck_good ‹¬ (d0.length : Int) = 0› ‹¬ (8 : Int) < d0.length› ha ‹_›).symm))
end
section
set_option linter.unusedVariables false
theorem cellsAt.uniq {m : Mem} {g off k : Nat} {a b : List Value} (h : cellsAt m g off k a) (h' : cellsAt m g off k b) : a = b := by
  obtain ⟨c, E, fz, h1, h2, h3⟩ := h
  obtain ⟨c', E', fz', h1', h2', h3'⟩ := h'
  rw [h1] at h1'
  cases h1'
  rw [h3, h3']
theorem OwAll.hole {α : Type} {R : Mem → List Value → α → Prop} {k : Nat} (hk : ∀ m c x, R m c x → c.length = k) : ∀ {xs : List α} {m : Mem} {cs : List Value} {i : Nat} {a : α}, OwAll R m cs xs → xs[i]? = some a →
    ∃ mr me, mdj mr me ∧ mle mr m ∧ mle me m ∧ R me ((cs.drop (i * k)).take k) a ∧ ∀ me' x', mdj mr me' → R me' ((cs.drop (i * k)).take k) x' → OwAll R (mun mr me') cs (xs.set i x')
  | y :: r, m, _, 0, a, ⟨c1, c2, m1, m2, h1, h2, h3, h4, h5, h6⟩, hi => by
    simp at hi; subst hi
    have e : ((c1 ++ c2).drop (0 * k)).take k = c1 := by rw [Nat.zero_mul, List.drop_zero]; exact List.take_left' (hk _ _ _ h5)
    rw [h1, e]
    exact ⟨m2, m1, h2.symm, h4, h3, h5, fun me' x' hd hx => ⟨c1, c2, me', m2, rfl, hd.symm, mle_un_right hd, mle_un_left _ _, hx, h6⟩⟩
  | y :: r, m, _, i + 1, a, ⟨c1, c2, m1, m2, h1, h2, h3, h4, h5, h6⟩, hi => by
    have hi' : r[i]? = some a := by simpa using hi
    obtain ⟨mr, me, d, l1, l2, hR, hb⟩ := OwAll.hole hk h6 hi'
    have d1 : mdj m1 mr := h2.mono (mle_refl _) l1
    have e : ((c1 ++ c2).drop ((i + 1) * k)).take k = (c2.drop (i * k)).take k := by
      rw [show (i + 1) * k = c1.length + i * k by rw [hk _ _ _ h5, Nat.add_mul]; omega, ← List.drop_drop, List.drop_left]
    rw [h1, e]
    refine ⟨mun m1 mr, me, mdj_un (h2.mono (mle_refl _) l2) d, mun_le h3 (l1.trans h4), l2.trans h4, hR, fun me' x' hd hx => ?_⟩
    have d2 := hd.mono (mle_un_left _ _) (mle_refl _)
    have d3 := hd.mono (mle_un_right d1) (mle_refl _)
    exact ⟨c1, c2, m1, mun mr me', rfl, (mdj_un d1.symm d2.symm).symm, (mle_un_left _ _).trans (mle_un_left _ _), mun_le ((mle_un_right d1).trans (mle_un_left _ _)) (mle_un_right hd), h5, hb me' x' d3 hx⟩
/-- An element of a list of one's own is taken out; what is put back goes into its place. -/
theorem Ow.hole {e : Ty} {m : Mem} {g off l c i : Nat} {xs : List e.Den} {a : e.Den} {yc : List Value} (h : Ow (.sl e) m [.slice (some ⟨g, off, none⟩) l c] xs) (hi : xs[i]? = some a) (hc : cellsAt m g (off + i * e.sz) e.sz yc) :
    ∃ mr me, Seps m [mr, me] ∧ Ow e me yc a ∧ ∀ me' x', mdj mr me' → Ow e me' yc x' → Ow (.sl e) (mun mr me') [.slice (some ⟨g, off, none⟩) l c] (xs.set i x') := by
  obtain ⟨m0, m1, rc, hS, hA, hL⟩ := h.opn
  have hlt : i < xs.length := (List.getElem?_eq_some_iff.1 hi).1
  have d01 : mdj m0 m1 := by have := hS.2; simpa using this
  have l0 := hS.1 m0 (.head _)
  have l1 := hS.1 m1 (.tail _ (.head _))
  obtain ⟨g', off', c', hv, hcell⟩ := hA.cells (by omega)
  simp only [Value.slice.injEq, Option.some.injEq, Addr.mk.injEq, and_true] at hv
  obtain ⟨⟨rfl, rfl⟩, hl, rfl⟩ := hv
  have hm2 : i * e.sz + e.sz ≤ xs.length * e.sz := by
    have := Nat.mul_le_mul_right e.sz (Nat.succ_le_of_lt hlt)
    rwa [Nat.succ_mul] at this
  have hyc := ((hcell.sub hm2).mono l0).uniq hc
  obtain ⟨mr, me, d, k1, k2, hR, hb⟩ := OwAll.hole (fun _ _ _ h => h.len) hL hi
  rw [hyc] at hR hb
  have d0r : mdj m0 mr := d01.mono (mle_refl _) k1
  have d0e : mdj m0 me := d01.mono (mle_refl _) k2
  refine ⟨mun m0 mr, me, .two (mdj_un d0e d) (mun_le l0 (k1.trans l1)) (k2.trans l1), hR, fun me' x' hd hx => ?_⟩
  have d2 := hd.mono (mle_un_left _ _) (mle_refl _)
  have d3 := hd.mono (mle_un_right d0r) (mle_refl _)
  refine Ow.cls (m0 := m0) (m1 := mun mr me') (rc := rc) (.two (mdj_un d0r.symm d2.symm).symm ((mle_un_left _ _).trans (mle_un_left _ _)) (mun_le ((mle_un_right d0r).trans (mle_un_left _ _)) (mle_un_right hd))) ?_ (hb me' x' d3 hx)
  rw [List.length_set]; exact hA
theorem Seps.back {e : Ty} {mr me : Mem} {v : Value} {xs : List e.Den} (hS : Seps (muns [mr, me]) [mr, me]) (h : mdj mr me → Ow (.sl e) (mun mr me) [v] xs) : Ow (.sl e) (muns [mr, me]) [v] xs :=
  (h (by simpa using hS.2)).up (mun_le (hS.1 _ (.head _)) (hS.1 _ (.tail _ (.head _))))
section
variable {P : Program} {n : Nat} {w0 : World} {σ : Env} {Ω : Ctx} {ops : Array Oper} {K : Env → Ctx → Prop} {R : Exit → Env → Ctx → Prop}
variable {ty : TypeId} {pos : String} {af : Array Edge} {d : Option Tmp} {gd : Option (Nat × Bool)} {r : List Oper}
theorem appIn_wp {s x : Operand} {t xt e : TypeId} {sz b len cap k : Nat} {A : Option Addr} {xv : Value} {cs xs : List Value} {i : Nat} {m m0 : Mem} {a : Act} {W : World} (he : EnvOk n σ a) (hi : Inv w0 Ω W) (hsv : ev σ s = some (.slice A len cap)) (hxv : ev σ x = some xv) (ht : tsl P t = some (e, sz, b))
    (hm : cget Ω i = some m) (hm0 : mle m0 m) (hown : OwnA sz m0 (.slice A len cap) len cs) (hs : SrcW P W sz xt xv k xs) (h1 : ∀ u ∈ xs, u.oneCell' = true) (hle : len + k ≤ cap)
    {K' : Act → World → Prop} {Q : Exit → Act → World → Prop} (hK : ∀ m' W', OwnA sz m' (.slice A (len + k) cap) (len + k) (cs ++ xs) → Inv w0 (cset Ω i m') W' → K' (a.put d (.slice A (len + k) cap)) W') :
    (⟨d, .call { callee := .builtin .append, args := [s, x].toArray, argTypes := [t, xt].toArray }, ty, pos, af, gd⟩ : Oper).wp P a W K' Q := by
  have hex : ∀ (res : Value) (W' : World), (Builtin.append_ #[t, xt] ty #[.slice A len cap, xv]).run P W = .ok res W' → (execOp a.eval ⟨d, .call { callee := .builtin .append, args := [s, x].toArray, argTypes := [t, xt].toArray }, ty, pos, af, gd⟩).run P W = .ok (.value res) W' := by
    intro res W' h
    simp [execOp, resolve, invoke, builtin, he.eval hsv, he.eval hxv, h]
  cases hown with
  | nil A =>
    have hk : k = 0 := by omega
    subst hk
    have hx : xs = [] := List.eq_nil_of_length_eq_zero (by simpa using hs.len)
    subst hx
    unfold Oper.wp
    rw [hex (.slice A 0 0) W (by rw [append_eq ht hs ty (by omega)]; cases A <;> rfl)]
    exact hK mnil _ (.nil A) (hi.set hm rfl rfl rfl (Nat.le_refl _) (mout_le _ _) (mle_nil _) fun g => .inl rfl)
  | row g off len cap E c h1' h2' h3' =>
    have hg := hi.at hm g _ (hm0 g _ (mone_self _ _))
    have hmul := Nat.mul_le_mul_right sz hle
    have hl2 := hs.len
    obtain ⟨W', hrun, ho, htp, hu, hsz, hfar, hgg⟩ := setCells_heap (P := P) xs W g (off + len * sz) c.toArray E (0, 0) hg (by simp [hl2]; rw [Nat.add_mul] at hmul; omega) (Nat.le_refl _) h1 0 (off + len * sz) rfl
    unfold Oper.wp
    rw [hex (.slice (some ⟨g, off, none⟩) (len + k) cap) W' (by rw [append_eq ht hs ty hle]; simp only [add_off, hrun]; rfl)]
    have hsl : splice c (off + len * sz) xs = c.take (off + len * sz) ++ (xs ++ c.drop (off + len * sz + xs.length)) := rfl
    have hlc : (splice c (off + len * sz) xs).length = c.length := by rw [hsl]; simp [hl2]; rw [Nat.add_mul] at hmul; omega
    refine hK (mone g (.cells (splice c (off + len * sz) xs).toArray E (0, 0))) _ ?_ (hi.set hm ho htp hu (Nat.le_of_eq hsz.symm) ?_ (mone_le hgg) fun g' => ?_)
    · have := OwnA.row (sz := sz) g off (len + k) cap E (splice c (off + len * sz) xs) (by rw [hlc]; exact h1') hle h3'
      have e1 : List.take ((len + k) * sz) (List.drop off (splice c (off + len * sz) xs)) = List.take (len * sz) (List.drop off c) ++ xs := by
        rw [hsl, List.drop_append_of_le_length (by simp; rw [Nat.add_mul] at hmul; omega), ← List.append_assoc]
        have e2 : List.drop off (List.take (off + len * sz) c) = List.take (len * sz) (List.drop off c) := by
          rw [List.drop_take]; congr 1; omega
        rw [e2]
        have e3 : (List.take (len * sz) (List.drop off c) ++ xs).length = (len + k) * sz := by
          rw [Nat.add_mul] at hmul ⊢
          simp [hl2]; omega
        rw [← e3]
        exact List.take_left
      rw [e1] at this
      exact this
    · intro q o h
      unfold mout at h
      split at h
      · cases h
      · rename_i hn
        have hne : q ≠ g := by rintro rfl; rw [hm0 _ _ (mone_self _ _)] at hn; cases hn
        unfold wm at h ⊢
        rw [hfar q hne]; exact h
    · by_cases hgg' : g' = g
      · subst hgg'; right; left; rw [hm0 _ _ (mone_self _ _)]; simp
      · exact .inl (mone_ne _ hgg')
/-- One thing, owned in chunk j, is appended within the room: the list stays where it is. -/
theorem VO.appI {e : Ty} {s x : Operand} {t xt et xe : TypeId} {b dd g c cap l : Nat} {A : Option Addr} {xs : List e.Den} {y : e.Den} {yc : List Value} (i j k : Nat) {m mj mk : Mem} (hd : Nat.blt dd n = true) (hsv : ev σ s = some (.slice A l cap)) (hxv : ev σ x = some (.slice (some ⟨g, 0, none⟩) 1 c)) (ht : tsl P t = some (et, e.sz, b))
    (hm : cget Ω i = some m) (hj : cget (cdel Ω i) j = some mj) (hk : cget Ω k = some mk) (hown : Ow (.sl e) m [.slice A l cap] xs) (hy : Ow e mj yc y) (hxt : P.underlying xt = some (.slice xe)) (hc : cellsAt mk g 0 e.sz yc) (hle : l + 1 ≤ cap)
    (h : ∀ m', Ow (.sl e) m' [.slice A (l + 1) cap] (xs ++ [y]) → VO P n w0 ops r ((dd, .slice A (l + 1) cap) :: σ) ((i, m') :: cdel (cdel Ω i) j) K) :
    VO P n w0 ops (⟨some dd, .call { callee := .builtin .append, args := [s, x].toArray, argTypes := [t, xt].toArray }, ty, pos, af, none⟩ :: r) σ Ω K :=
  fun Q hQ a W he hi => wpList_plain rfl fun K' hK => by
    obtain rfl := slice_len hown
    obtain ⟨m0, m1, rc, hS, hA, hL⟩ := hown.opn
    obtain ⟨q1, q2, q3, q4, _⟩ := hi.gets (ids := [i, j]) (l := [m, mj]) (by simp [cgets, hm, hj])
    have dmj : mdj m mj := by simpa using q1
    have d01 : mdj m0 m1 := by have := hS.2; simpa using this
    have l0 := hS.1 m0 (.head _)
    have l1 := hS.1 m1 (.tail _ (.head _))
    have d1j : mdj m1 mj := dmj.mono l1 (mle_refl _)
    have hnew : mdj m0 (mun m1 mj) := (mdj_un d01.symm (dmj.mono l0 (mle_refl _)).symm).symm
    have hΩ2 : Inv w0 ((i, m0) :: (j, mun m1 mj) :: cdel (cdel Ω i) j) W := by
      have hdel : Inv w0 (cdel (cdel Ω i) j) W := q4
      have f1 : ∀ p ∈ cdel (cdel Ω i) j, mdj m p.2 := fun p hp => q3 m (.head _) p hp
      have f2 : ∀ p ∈ cdel (cdel Ω i) j, mdj mj p.2 := fun p hp => q3 mj (.tail _ (.head _)) p hp
      refine ⟨hi.os, hi.tape, hi.output, hi.size, fun p hp => ?_, List.pairwise_cons.2 ⟨fun p hp => ?_, List.pairwise_cons.2 ⟨fun p hp => ?_, hdel.dj⟩⟩⟩
      · rcases List.mem_cons.1 hp with rfl | hp
        · exact l0.trans (hi.at hm)
        · rcases List.mem_cons.1 hp with rfl | hp
          · exact mun_le (l1.trans (hi.at hm)) (q2 mj (.tail _ (.head _)))
          · exact hdel.le p hp
      · rcases List.mem_cons.1 hp with rfl | hp
        · exact hnew
        · exact (f1 p hp).mono l0 (mle_refl _)
      · exact mdj_un ((f1 p hp).mono l1 (mle_refl _)) (f2 p hp)
    have hsrc : SrcW P W e.sz xt (.slice (some ⟨g, 0, none⟩) 1 c) 1 yc := by
      refine ⟨⟨_, hxt, by simp⟩, by rw [hy.len]; omega, fun W' hW => ?_, fun W' => by simp [Builtin.lenOf]⟩
      have hc2 : cellsAt (wm W') g 0 (1 * e.sz) yc := by
        rw [Nat.one_mul]
        refine hc.mono (fun q o ho => ?_)
        have := hi.at hk q o ho
        unfold wm at this ⊢
        rw [hW]; exact this
      exact firstCells_row hc2
    refine appIn_wp (i := i) (m := m0) (m0 := m0) he hΩ2 hsv hxv ht (by simp [cget]) (mle_refl _) hA hsrc hy.nice hle fun m' W' hA' hi' => ?_
    have hc' : cset ((i, m0) :: (j, mun m1 mj) :: cdel (cdel Ω i) j) i m' = (i, m') :: (j, mun m1 mj) :: cdel (cdel Ω i) j := by simp [cset]
    rw [hc'] at hi'
    have hdj : mdj m' (mun m1 mj) := (List.pairwise_cons.1 hi'.dj).1 _ (.head _)
    have hall : OwAll (Ow e) (mun m1 mj) (rc ++ yc) (xs ++ [y]) := OwAll.app d1j (mle_un_left _ _) (mle_un_right d1j) hL (.one hy (mle_refl _))
    have el : (xs ++ [y]).length = xs.length + 1 := by simp
    have hA' : OwnA e.sz m' (.slice A (xs.length + 1) cap) (xs ++ [y]).length (rc ++ yc) := by rw [el]; exact hA'
    have how : Ow (.sl e) (mun m' (mun m1 mj)) [.slice A (xs.length + 1) cap] (xs ++ [y]) := ⟨_, m', mun m1 mj, rc ++ yc, rfl, hdj, mle_un_left _ _, mle_un_right hdj, hA', hall⟩
    refine hK _ _ (h _ how Q hQ _ _ (he.put hd _) ?_)
    refine ⟨hi'.os, hi'.tape, hi'.output, hi'.size, fun p hp => ?_, List.pairwise_cons.2 ⟨fun p hp => ?_, (List.pairwise_cons.1 (List.pairwise_cons.1 hi'.dj).2).2⟩⟩
    · rcases List.mem_cons.1 hp with rfl | hp
      · exact mun_le (hi'.le (i, m') (.head _)) (hi'.le (j, mun m1 mj) (.tail _ (.head _)))
      · exact hi'.le p (.tail _ (.tail _ hp))
    · exact mdj_un ((List.pairwise_cons.1 hi'.dj).1 p (.tail _ hp)) ((List.pairwise_cons.1 (List.pairwise_cons.1 hi'.dj).2).1 p hp)
end
end
end Go.Proofs.Ytfaknkkaegjdaaa
