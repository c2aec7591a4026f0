/- Part 2 of the proof of LWalKeeps: what it needs of the library, the walks and the plain laws. Conditions: those named in each theorem. -/
import Derived.Test.YtdoamgdanlnlfaaLWalKeepsM1
namespace Go.Proofs.Ytdoamgdanlnlfaa
section
set_option linter.unusedVariables false
set_option linter.unusedSimpArgs false
set_option maxRecDepth 4000
theorem teq95 (a0 : Bool) (a1 : List UInt8) (a2 : List UInt8) : plainS Try.prog 95 [.bool a0, str a1, str a2] = true := by kernel_rfl
theorem tk4 : tk Try.prog 4 = some none := by kernel_rfl
theorem tk5 : tk Try.prog 5 = some none := by kernel_rfl
theorem tk9 : tk Try.prog 9 = some none := by kernel_rfl
theorem tk95 : tk Try.prog 95 = some (some 3) := by kernel_rfl
theorem tsl22 : tsl Try.prog 22 = some (5, 1, 1) := by kernel_rfl
theorem tsl40 : tsl Try.prog 40 = some (95, 3, 40) := by kernel_rfl
theorem tst95 : tst Try.prog 95 = some [(0, 1), (1, 1), (2, 1)] := by kernel_rfl
theorem tz5 : tz Try.prog 5 = some [.int .u8 0] := by kernel_rfl
theorem tz95 : tz Try.prog 95 = some [.bool false, .string ⟨#[]⟩, .string ⟨#[]⟩] := by kernel_rfl
theorem follows : Try.prog.follows .mixedOrders = true := by kernel_rfl
theorem SameOps_ok (W : World) {v0 : Value} {d0 : List DOp} (h0 : Rd (.sl TOp) (wm W) [v0] d0) {v1 : Value} {d1 : List DOp} (h1 : Rd (.sl TOp) (wm W) [v1] d1) : CallR Try.prog 76 [v0, v1] W (mnil) (fun v m' => v = .bool (decide (d0 = d1))) := by
  obtain ⟨A0, c0, rfl, l0, k0⟩ := h0.slice
  simp only [maxLen] at k0
  obtain ⟨A1, c1, rfl, l1, k1⟩ := h1.slice
  simp only [maxLen] at k1
  refine CallR.ofA (n := 26) Try.func76 rfl rfl rfl ?_
  refine VC.rs ?_
  refine VO.as ?_
  refine VO.k3 0 1 4 ?_
  refine VC.seq ?_
  refine VC.rs ?_
  refine VO.mv ?_
  refine VO.y rfl (.lenS rfl tsl40) ?_
  refine VO.mv ?_
  refine VO.y rfl (.lenS rfl tsl40) ?_
  refine VO.y rfl (.neq rfl rfl) ?_
  refine VO.k4 0 1 4 10 ?_
  refine VC.cond rfl (fun hc1 => ?_) (fun hc1 => ?_)
  · -- T
    refine VC.rs ?_
    refine VO.as ?_
    refine VO.kp [0] [(0, wm W)] ?_
    refine VO.k4 0 1 4 10 ?_
    refine VC.ret ?_
    refine outR ?_
    refine ⟨_, _, res_run (rs := [.tmp 4]) rfl (.tmp rfl .nil), fun W_ hI => out_of (l := []) hI [] rfl rfl (mle_refl _) (fun hS_ => ?_)⟩
    dsimp only [packV]
    all_goals (first | rfl | (simp [len_ne hc1]))
  · -- F
    refine VC.skip ?_
    refine outN ?_
    refine VC.seq ?_
    refine VC.rs ?_
    refine VO.as ?_
    refine VO.kp [0] [(0, wm W)] ?_
    refine VO.k5 0 1 4 5 10 ?_
    refine VC.block ?_
    refine VC.loop (G := Nat) (fun k => [(5, Value.int .i64 (((k : Nat) : Int))), (0, Value.slice A0 (d0.length) (c0)), (1, Value.slice A1 (d1.length) (c1)), (10, Value.bool (decide (¬ ((d0.length : Nat) : Int) = ((d1.length : Nat) : Int))))]) (fun k => [(0, wm W)]) (fun k => (k ≤ d0.length) ∧ (d0.take k = d1.take k)) (fun k => d0.length - k) 0 (⟨by omega, by rfl⟩) ⟨⟨rfl, rfl, rfl, rfl, trivial⟩, fun _ h => h.sub [0]⟩ ?_
    rintro k ⟨hk, ht⟩
    refine VC.seq ?_
    refine VC.rs ?_
    refine VO.mv ?_
    refine VO.mv ?_
    refine VO.y rfl (.lenS rfl tsl40) ?_
    refine VO.y rfl (.lss rfl rfl) ?_
    refine VO.k5 0 1 5 10 14 ?_
    refine VC.cond rfl (fun hc2 => ?_) (fun hc2 => ?_)
    · -- FT
      refine VC.skip ?_
      refine outN ?_
      refine VC.seq ?_
      refine VC.block ?_
      refine VC.seq ?_
      refine VC.regD _ 8 [(0, true), (1, true), (2, true), (3, true), (4, true), (5, true), (6, true), (7, true)] follows (by kernel_rfl) (fun _ h => h.sub [0]) ?_
      refine VD.y rfl rfl (.inl rfl) (.mv rfl) ?_
      refine VD.y rfl rfl (.inl rfl) (.mv rfl) ?_
      obtain ⟨x3, hx3⟩ : ∃ z_, (d0)[k]? = some z_ := ⟨_, List.getElem?_eq_getElem bd⟩
      obtain ⟨gg3, oo3, ec3, ea3, hce3, hre3⟩ := h0.elem hx3
      cases ea3
      obtain ⟨rfl, q3_1, q3_2⟩ := open_Op (x0 := x3.1) (x1 := x3.2.1) (x2 := x3.2.2) hre3
      simp only [maxLen] at q3_1
      simp only [maxLen] at q3_2
      refine VD.y rfl rfl (.inl rfl) (.ixI k rfl rfl tsl40 rfl bd) ?_
      refine VD.y rfl rfl (.inl rfl) (.ldA 0 rfl tk95 rfl hce3) ?_
      refine VD.y rfl rfl (.inl rfl) (.mv rfl) ?_
      refine VD.y rfl rfl (.inl rfl) (.mv rfl) ?_
      obtain ⟨x4, hx4⟩ : ∃ z_, (d1)[k]? = some z_ := ⟨_, List.getElem?_eq_getElem bd⟩
      obtain ⟨gg4, oo4, ec4, ea4, hce4, hre4⟩ := h1.elem hx4
      cases ea4
      obtain ⟨rfl, q4_1, q4_2⟩ := open_Op (x0 := x4.1) (x1 := x4.2.1) (x2 := x4.2.2) hre4
      simp only [maxLen] at q4_1
      simp only [maxLen] at q4_2
      refine VD.y rfl rfl (.inl rfl) (.ixI k rfl rfl tsl40 rfl bd) ?_
      refine VD.y rfl rfl (.inl rfl) (.ldA 0 rfl tk95 rfl hce4) ?_
      refine VD.nil rfl ?_ rfl
      refine VO.y rfl (.stneq (p := x3.1 = x4.1 ∧ x3.2.1 = x4.2.1 ∧ x3.2.2 = x4.2.2) rfl rfl (teq95 x3.1 x3.2.1 x3.2.2) (teq95 x4.1 x4.2.1 x4.2.2) (by simp [ceq, ba_toList])) ?_
      refine VO.k6 0 1 5 10 14 25 ?_
      refine outN ?_
      refine VC.cond rfl (fun hc5 => ?_) (fun hc5 => ?_)
      · -- FTT
        refine VC.rs ?_
        refine VO.as ?_
        refine VO.kp [0] [(0, wm W)] ?_
        refine VO.k7 0 1 4 5 10 14 25 ?_
        refine VC.ret ?_
        refine outBR ?_
        refine outR ?_
        refine outR ?_
        refine outBR ?_
        refine outR ?_
        refine ⟨_, _, res_run (rs := [.tmp 4]) rfl (.tmp rfl .nil), fun W_ hI => out_of (l := []) hI [] rfl rfl (mle_refl _) (fun hS_ => ?_)⟩
        dsimp only [packV]
        all_goals (first | rfl | (simp [get_ne ‹d0[k]? = some _› ‹d1[k]? = some _› (op_ne ‹_›)]))
      · -- FTF
        refine VC.skip ?_
        refine outBN ?_
        refine outN ?_
        refine VC.reg ?_
        refine VO.mv ?_
        refine VO.y rfl (.add (c := ((k + 1 : Nat) : Int)) rfl rfl (by omega) ⟨bd, bd⟩) ?_
        refine VO.as ?_
        refine VO.kp [0] [(0, wm W)] ?_
        refine VO.k6 0 1 5 10 14 25 ?_
        exact outN ⟨k + 1, ⟨by omega, by exact take_next ht ‹d0[k]? = some _› ‹d1[k]? = some _› (op_eq (by simpa using ‹¬ ¬ _›))⟩, bd, ⟨⟨rfl, rfl, rfl, rfl, trivial⟩, fun _ h => Inv.sub h [0]⟩⟩
    · -- FF
      refine VC.exit ?_
      refine outE ?_
      refine outE ?_
      refine outBB ?_
      refine outN ?_
      refine VC.rs ?_
      refine VO.as ?_
      refine VO.k6 0 1 4 5 10 14 ?_
      refine VC.ret ?_
      refine ⟨_, _, res_run (rs := [.tmp 4]) rfl (.tmp rfl .nil), fun W_ hI => out_of (l := []) hI [] rfl rfl (mle_refl _) (fun hS_ => ?_)⟩
      dsimp only [packV]
      all_goals (first | rfl | (simp [take_all ht (by omega) (by omega)]))
theorem CopyOps_ok (W : World) {v0 : Value} {d0 : List DOp} (h0 : Rd (.sl TOp) (wm W) [v0] d0) (e0 : d0.length ≤ 3518437208800) : CallR Try.prog 77 [v0] W (mnil) (fun v m' => ∃ (s0 : Value), v = s0 ∧ Ow (.sl TOp) m' [s0] (d0)) := by
  obtain ⟨A0, c0, rfl, l0, k0⟩ := h0.slice
  simp only [maxLen] at k0
  refine CallR.ofA (n := 6) Try.func77 rfl rfl rfl ?_
  refine VC.rs ?_
  refine VO.as ?_
  refine VO.k2 0 2 ?_
  refine VC.rs ?_
  refine VO.bsl (cs := []) 102 rfl rfl tsl40 tz95 rfl rfl (fun g1 => ?_)
  refine VO.mv ?_
  have ho4 : OwnL TOp (mone g1 (.cells [].toArray 95 (0, 0))) mnil (Value.slice (some ⟨g1, 0, none⟩) (0) (0)) [] := OwnL.lit 0 All2c.nil rfl rfl
  obtain ⟨mo3, cs3, hM3, hA3, hC3⟩ := ho4
  obtain ⟨all3, hS3, hR3⟩ := Rd.srcI (P := Try.prog) (h0) Try.underlying40
  refine VO.app 102 rfl rfl rfl tsl40 tz95 rfl rfl hM3 hA3 (hS3 _ 0 rfl) hR3.nice bdm bd (by decide) (fun v3 m3 hN3 => ?_)
  have ho3 : OwnL TOp m3 mnil v3 (d0) := OwnL.more hC3 hN3 (All2c.mono hR3 fun _ _ h => Rd.flat rfl h _)
  obtain ⟨A3, c3, rfl, l3, k3⟩ := ho3.slice
  simp only [maxLen] at k3
  refine VO.as ?_
  refine VO.k2 0 2 ?_
  refine VC.ret ?_
  refine ⟨_, _, res_run (rs := [.tmp 2]) rfl (.tmp rfl .nil), fun W_ hI => out_of (l := [m3]) hI [102] rfl rfl (mle_refl _) (fun hS_ => ?_)⟩
  dsimp only [packV]
  have he0 : (d0 : Ty.Den (.sl TOp)) = d0 := by first | rfl | (simp [*]; done)
  refine ⟨Value.slice A3 ((d0).length) (c3), ?_, ?_⟩
  rotate_left
  · rw [he0]; exact (Ow.up (OwnL.ow ho3 rfl) (hS_.1 _ (.head _)))
  all_goals (first | rfl | (simp [*]; done))
theorem fin0_opCheck_ok {P : Prop} (h : P := by congr 1; first | exact (opCheck_bad (fun h => by have := h.1; have := h.2.1; have := h.2.2.1; omega)).symm | exact (opCheck_bad (fun h => by rcases h.2.2.2 with e | e <;> first | exact absurd e ‹¬ _ = _› | simp [e] at *)).symm | exact (opCheck_good ⟨by omega, by omega, by omega, by first | exact .inl ‹d0.1 = true› | exact .inr (by simpa using ‹¬ ¬ _›)⟩).symm) : P := h
theorem opCheck_ok (W : World) {v0 : List Value} {d0 : DOp} (h0 : Rd TOp (wm W) v0 d0) : CallR Try.prog 100 [.agg v0.toArray] W (mnil) (fun v m' => v = .int .i64 (opCheck d0)) := by
  obtain ⟨rfl, p0_1, p0_2⟩ := open_Op (x0 := d0.1) (x1 := d0.2.1) (x2 := d0.2.2) h0
  simp only [maxLen] at p0_1
  simp only [maxLen] at p0_2
  refine CallR.ofA (n := 29) Try.func100 rfl rfl rfl ?_
  refine VC.rs ?_
  refine VO.box (cs := [Value.bool d0.1, str (d0.2.1), str (d0.2.2)]) 102 rfl rfl rfl (fun g1 => ?_)
  refine VO.as ?_
  refine VO.k3 0 1 2 ?_
  refine VC.seq ?_
  refine VC.rs ?_
  refine VO.y rfl (.fa rfl tst95 rfl) ?_
  refine VO.y rfl (.ld1 102 rfl tk9 rfl (cellsAt_one rfl rfl)) ?_
  refine VO.y rfl (.lenT rfl Try.underlying9) ?_
  refine VO.y rfl (.lss rfl rfl) ?_
  refine VO.mv ?_
  refine VO.dec (t := 7) rfl (fun hc3 => ?_) (fun hc3 => ?_)
  · -- T
    refine VO.gN ?_
    refine VO.gN ?_
    refine VO.gN ?_
    refine VO.gN ?_
    refine VO.y rfl (.pT rfl rfl) ?_
    refine VO.mv ?_
    refine VO.gN ?_
    refine VO.gN ?_
    refine VO.gN ?_
    refine VO.gN ?_
    refine VO.y rfl (.pT rfl rfl) ?_
    refine VO.mv ?_
    refine VO.gN ?_
    refine VO.gN ?_
    refine VO.gN ?_
    refine VO.gN ?_
    refine VO.gn rfl (.inr ⟨_, rfl, rfl⟩) ?_
    refine VO.gn rfl (.inr ⟨_, rfl, rfl⟩) ?_
    refine VO.gn rfl (.inr ⟨_, rfl, rfl⟩) ?_
    refine VO.gN ?_
    refine VO.y rfl (.pT rfl rfl) ?_
    refine VO.k4 0 1 2 28 ?_
    refine VC.condT rfl ?_
    refine VC.rs ?_
    refine VO.as ?_
    refine VO.kp [102, 0] [(102, mone g1 (.cells [Value.bool d0.1, str (d0.2.1), str (d0.2.2)].toArray 95 (0, 0))), (0, wm W)] ?_
    refine VO.k4 0 1 2 28 ?_
    refine VC.ret ?_
    refine outR ?_
    refine ⟨_, _, res_run (rs := [.tmp 2]) rfl (.tmp rfl .nil), fun W_ hI => out_of (l := []) hI [] rfl rfl (mle_refl _) (fun hS_ => ?_)⟩
    dsimp only [packV]
    all_goals (first | rfl | (exact fin0_opCheck_ok))
  · -- F
    refine VO.gy rfl ⟨_, rfl, rfl⟩ (.fa rfl tst95 rfl) ?_
    refine VO.gy rfl ⟨_, rfl, rfl⟩ (.ld1 102 rfl tk9 rfl (cellsAt_one rfl rfl)) ?_
    refine VO.gy rfl ⟨_, rfl, rfl⟩ (.lenT rfl Try.underlying9) ?_
    refine VO.gy rfl ⟨_, rfl, rfl⟩ (.gtr rfl rfl) ?_
    refine VO.y rfl (.pF rfl rfl) ?_
    refine VO.mv ?_
    refine VO.dec (t := 13) rfl (fun hc4 => ?_) (fun hc4 => ?_)
    · -- FT
      refine VO.gN ?_
      refine VO.gN ?_
      refine VO.gN ?_
      refine VO.gN ?_
      refine VO.y rfl (.pT rfl rfl) ?_
      refine VO.mv ?_
      refine VO.gN ?_
      refine VO.gN ?_
      refine VO.gN ?_
      refine VO.gN ?_
      refine VO.gn rfl (.inr ⟨_, rfl, rfl⟩) ?_
      refine VO.gn rfl (.inr ⟨_, rfl, rfl⟩) ?_
      refine VO.gn rfl (.inr ⟨_, rfl, rfl⟩) ?_
      refine VO.gN ?_
      refine VO.y rfl (.pT rfl rfl) ?_
      refine VO.k4 0 1 2 28 ?_
      refine VC.condT rfl ?_
      refine VC.rs ?_
      refine VO.as ?_
      refine VO.kp [102, 0] [(102, mone g1 (.cells [Value.bool d0.1, str (d0.2.1), str (d0.2.2)].toArray 95 (0, 0))), (0, wm W)] ?_
      refine VO.k4 0 1 2 28 ?_
      refine VC.ret ?_
      refine outR ?_
      refine ⟨_, _, res_run (rs := [.tmp 2]) rfl (.tmp rfl .nil), fun W_ hI => out_of (l := []) hI [] rfl rfl (mle_refl _) (fun hS_ => ?_)⟩
      dsimp only [packV]
      all_goals (first | rfl | (exact fin0_opCheck_ok))
    · -- FF
      refine VO.gy rfl ⟨_, rfl, rfl⟩ (.fa rfl tst95 rfl) ?_
      refine VO.gy rfl ⟨_, rfl, rfl⟩ (.ld1 102 rfl tk9 rfl (cellsAt_one rfl rfl)) ?_
      refine VO.gy rfl ⟨_, rfl, rfl⟩ (.lenT rfl Try.underlying9) ?_
      refine VO.gy rfl ⟨_, rfl, rfl⟩ (.gtr rfl rfl) ?_
      refine VO.y rfl (.pF rfl rfl) ?_
      refine VO.mv ?_
      refine VO.dec (t := 19) rfl (fun hc5 => ?_) (fun hc5 => ?_)
      · -- FFT
        refine VO.gN ?_
        refine VO.gN ?_
        refine VO.gN ?_
        refine VO.gN ?_
        refine VO.gn rfl (.inr ⟨_, rfl, rfl⟩) ?_
        refine VO.gn rfl (.inr ⟨_, rfl, rfl⟩) ?_
        refine VO.gn rfl (.inr ⟨_, rfl, rfl⟩) ?_
        refine VO.gN ?_
        refine VO.y rfl (.pT rfl rfl) ?_
        refine VO.k4 0 1 2 28 ?_
        refine VC.condT rfl ?_
        refine VC.rs ?_
        refine VO.as ?_
        refine VO.kp [102, 0] [(102, mone g1 (.cells [Value.bool d0.1, str (d0.2.1), str (d0.2.2)].toArray 95 (0, 0))), (0, wm W)] ?_
        refine VO.k4 0 1 2 28 ?_
        refine VC.ret ?_
        refine outR ?_
        refine ⟨_, _, res_run (rs := [.tmp 2]) rfl (.tmp rfl .nil), fun W_ hI => out_of (l := []) hI [] rfl rfl (mle_refl _) (fun hS_ => ?_)⟩
        dsimp only [packV]
        all_goals (first | rfl | (exact fin0_opCheck_ok))
      · -- FFF
        refine VO.gy rfl ⟨_, rfl, rfl⟩ (.fa rfl tst95 rfl) ?_
        refine VO.gy rfl ⟨_, rfl, rfl⟩ (.ld1 102 rfl tk4 rfl (cellsAt_one rfl rfl)) ?_
        refine VO.gy rfl ⟨_, rfl, rfl⟩ (.not rfl) ?_
        refine VO.gy rfl ⟨_, rfl, rfl⟩ (.mv rfl) ?_
        refine VO.decBN (t := 23) rfl (fun hc6 => ?_) (fun hc6 => ?_)
        · -- FFFT
          refine VO.gy rfl ⟨_, rfl, rfl⟩ (.fa rfl tst95 rfl) ?_
          refine VO.gy rfl ⟨_, rfl, rfl⟩ (.ld1 102 rfl tk9 rfl (cellsAt_one rfl rfl)) ?_
          refine VO.gy rfl ⟨_, rfl, rfl⟩ (.sneq rfl rfl) ?_
          refine VO.gy rfl ⟨_, rfl, rfl⟩ (.pT rfl rfl) ?_
          refine VO.y rfl (.pF rfl rfl) ?_
          refine VO.k4 0 1 2 28 ?_
          refine VC.cond rfl (fun hc7 => ?_) (fun hc7 => ?_)
          · -- FFFTT
            refine VC.rs ?_
            refine VO.as ?_
            refine VO.kp [102, 0] [(102, mone g1 (.cells [Value.bool d0.1, str (d0.2.1), str (d0.2.2)].toArray 95 (0, 0))), (0, wm W)] ?_
            refine VO.k4 0 1 2 28 ?_
            refine VC.ret ?_
            refine outR ?_
            refine ⟨_, _, res_run (rs := [.tmp 2]) rfl (.tmp rfl .nil), fun W_ hI => out_of (l := []) hI [] rfl rfl (mle_refl _) (fun hS_ => ?_)⟩
            dsimp only [packV]
            all_goals (first | rfl | (exact fin0_opCheck_ok))
          · -- FFFTF
            refine VC.skip ?_
            refine outN ?_
            refine VC.rs ?_
            refine VO.as ?_
            refine VO.kp [102, 0] [(102, mone g1 (.cells [Value.bool d0.1, str (d0.2.1), str (d0.2.2)].toArray 95 (0, 0))), (0, wm W)] ?_
            refine VO.k4 0 1 2 28 ?_
            refine VC.ret ?_
            refine ⟨_, _, res_run (rs := [.tmp 2]) rfl (.tmp rfl .nil), fun W_ hI => out_of (l := []) hI [] rfl rfl (mle_refl _) (fun hS_ => ?_)⟩
            dsimp only [packV]
            all_goals (first | rfl | (exact fin0_opCheck_ok))
        · -- FFFF
          refine VO.gN ?_
          refine VO.gN ?_
          refine VO.gN ?_
          refine VO.gy rfl ⟨_, rfl, rfl⟩ (.pF rfl rfl) ?_
          refine VO.y rfl (.pF rfl rfl) ?_
          refine VO.k4 0 1 2 28 ?_
          refine VC.condF rfl ?_
          refine VC.skip ?_
          refine outN ?_
          refine VC.rs ?_
          refine VO.as ?_
          refine VO.kp [102, 0] [(102, mone g1 (.cells [Value.bool d0.1, str (d0.2.1), str (d0.2.2)].toArray 95 (0, 0))), (0, wm W)] ?_
          refine VO.k4 0 1 2 28 ?_
          refine VC.ret ?_
          refine ⟨_, _, res_run (rs := [.tmp 2]) rfl (.tmp rfl .nil), fun W_ hI => out_of (l := []) hI [] rfl rfl (mle_refl _) (fun hS_ => ?_)⟩
          dsimp only [packV]
          all_goals (first | rfl | (exact fin0_opCheck_ok))
theorem within_ok (W : World) (d0 : Int) (h0 : inK .i64 d0) : CallR Try.prog 92 [.int .i64 d0] W (mnil) (fun v m' => v = .bool (decide (1 ≤ d0 ∧ d0 ≤ 1048576))) := by
  have h0' := h0; simp only [inK] at h0'
  refine CallR.ofA (n := 9) Try.func92 rfl rfl rfl ?_
  refine VC.rs ?_
  refine VO.as ?_
  refine VO.k2 0 2 ?_
  refine VC.rs ?_
  refine VO.mv ?_
  refine VO.y rfl (.geq rfl rfl) ?_
  refine VO.mv ?_
  refine VO.dec (t := 5) rfl (fun hc1 => ?_) (fun hc1 => ?_)
  · -- T
    refine VO.gy rfl ⟨_, rfl, rfl⟩ (.mv rfl) ?_
    refine VO.gy rfl ⟨_, rfl, rfl⟩ (.leq rfl rfl) ?_
    refine VO.y rfl (.pT rfl rfl) ?_
    refine VO.as ?_
    refine VO.k2 0 2 ?_
    refine VC.ret ?_
    refine ⟨_, _, res_run (rs := [.tmp 2]) rfl (.tmp rfl .nil), fun W_ hI => out_of (l := []) hI [] rfl rfl (mle_refl _) (fun hS_ => ?_)⟩
    dsimp only [packV]
    all_goals (first | rfl | (simp [*]))
  · -- F
    refine VO.gN ?_
    refine VO.gN ?_
    refine VO.y rfl (.pF rfl rfl) ?_
    refine VO.as ?_
    refine VO.k2 0 2 ?_
    refine VC.ret ?_
    refine ⟨_, _, res_run (rs := [.tmp 2]) rfl (.tmp rfl .nil), fun W_ hI => out_of (l := []) hI [] rfl rfl (mle_refl _) (fun hS_ => ?_)⟩
    dsimp only [packV]
    all_goals (first | rfl | (simp [*]))
theorem vAppend_ok (W : World) {v0 : Value} {d0 : List UInt8} (h0 : Rd (.sl .byte) (wm W) [v0] d0) (d1 : Nat) (h1 : d1 < 18446744073709551616) (e0 : d0.length ≤ 140737488355000) : CallR Try.prog 82 [v0, .int .u64 (d1 : Int)] W (mnil) (fun v m' => ∃ (s0 : Value), v = s0 ∧ Ow (.sl .byte) m' [s0] (d0 ++ venc d1)) := by
  obtain ⟨A0, c0, rfl, l0, k0⟩ := h0.slice
  simp only [maxLen] at k0
  refine CallR.ofA (n := 23) Try.func82 rfl rfl rfl ?_
  refine VC.rs ?_
  refine VO.as ?_
  refine VO.k3 0 1 4 ?_
  refine VC.rs ?_
  refine VO.mv ?_
  refine VO.inv _ (fun _ h => h.nilc 102) ?_
  obtain ⟨mo1, cs1, hM1, hA1, hC1⟩ := (OwnL.nil .byte mnil mnil)
  obtain ⟨all1, hS1, hR1⟩ := Rd.srcI (P := Try.prog) (h0) Try.underlying22
  refine VO.app 102 rfl rfl rfl tsl22 tz5 rfl rfl hM1 hA1 (hS1 _ 0 rfl) hR1.nice bdm bd (by decide) (fun v1 m1 hN1 => ?_)
  have ho1 : OwnL .byte m1 mnil v1 (d0) := OwnL.more hC1 hN1 (All2c.mono hR1 fun _ _ h => Rd.flat rfl h _)
  obtain ⟨A1, c1, rfl, l1, k1⟩ := ho1.slice
  simp only [maxLen] at k1
  refine VO.as ?_
  refine VO.k4 0 1 4 5 ?_
  refine VC.seq ?_
  refine VC.block ?_
  refine VC.loop (G := Nat × (List UInt8) × (Option Addr) × Nat × Mem) (fun g => [(1, Value.int .u64 ((((g.1) : Nat) : Int))), (5, Value.slice (g.2.2.1) ((g.2.1).length) ((g.2.2.2.1))), (0, Value.slice A0 (d0.length) (c0)), (4, Value.slice none (0) (0))]) (fun g => [(102, (g.2.2.2.2)), (0, wm W)]) (fun g => ((g.1) < 18446744073709551616) ∧ ((g.2.1) ++ venc (g.1) = d0 ++ venc d1) ∧ (OwnL .byte (g.2.2.2.2) mnil (.slice (g.2.2.1) (g.2.1).length (g.2.2.2.1)) (g.2.1))) (fun g => (g.1)) (d1, d0, A1, c1, m1) (⟨by omega, by rfl, ho1⟩) ⟨⟨rfl, rfl, rfl, rfl, trivial⟩, fun _ h => h.sub [102, 0]⟩ ?_
  rintro ⟨x, out, out_A, out_c, out_m⟩ ⟨hx, ho, h_out⟩
  replace hx : x < 18446744073709551616 := hx
  replace ho : out ++ venc x = d0 ++ venc d1 := ho
  replace h_out : OwnL .byte out_m mnil (.slice out_A out.length out_c) out := h_out
  show VC _ _ _ _ _ [(1, Value.int .u64 (((x : Nat) : Int))), (5, Value.slice out_A (out.length) (out_c)), (0, Value.slice A0 (d0.length) (c0)), (4, Value.slice none (0) (0))] [(102, out_m), (0, wm W)]
  have l_out : out.length ≤ out_c := by obtain ⟨_, _, he, hl, _⟩ := h_out.slice; simp only [Value.slice.injEq] at he; omega
  have k_out : out_c ≤ 9223372036854775807 := by obtain ⟨_, _, he, _, hl⟩ := h_out.slice; simp only [Value.slice.injEq, maxLen] at he hl; omega
  have hlo := venc_room hx h1 ho
  refine VC.block ?_
  refine VC.seq ?_
  refine VC.rs ?_
  refine VO.mv ?_
  refine VO.y rfl (.lss rfl rfl) ?_
  refine VO.kp [102, 0] [(102, out_m), (0, wm W)] ?_
  refine VO.k5 0 1 4 5 9 ?_
  refine VC.cond rfl (fun hc3 => ?_) (fun hc3 => ?_)
  · -- T
    refine VC.exit ?_
    refine outE ?_
    refine outBE rfl ?_
    refine outE ?_
    refine outBB ?_
    refine outN ?_
    refine VC.rs ?_
    refine VO.mv ?_
    refine VO.mv ?_
    refine VO.y rfl (.cvI rfl ⟨_, Try.underlying117⟩ Try.underlying5 (u8_of_nat _)) ?_
    refine VO.bsl (cs := [Value.int .u8 (((x % 256 : Nat) : Int))]) 105 rfl rfl tsl22 tz5 rfl rfl (fun g4 => ?_)
    obtain ⟨mo6, cs6, hM6, hA6, hC6⟩ := h_out
    refine VO.app 102 rfl rfl rfl tsl22 tz5 rfl rfl hM6 hA6 (.row 105 _ _ _ 1 1 _ _ Try.underlying22 rfl (cellsAt_one rfl rfl)) (by simp [Value.oneCell']) bdm bd (by decide) (fun v6 m6 hN6 => ?_)
    have ho6 : OwnL .byte m6 mnil v6 (out ++ [UInt8.ofNat (x % 256)]) := OwnL.one hC6 hN6 (rd_byteN bd)
    obtain ⟨A6, c6, rfl, l6, k6⟩ := ho6.slice
    simp only [maxLen] at k6
    refine VO.as ?_
    refine VO.k5 0 1 4 5 9 ?_
    refine VC.ret ?_
    refine ⟨_, _, res_run (rs := [.tmp 4]) rfl (.tmp rfl .nil), fun W_ hI => out_of (l := [m6]) hI [102] rfl rfl (mle_refl _) (fun hS_ => ?_)⟩
    dsimp only [packV]
    have he0 : (d0 ++ venc d1 : Ty.Den (.sl .byte)) = out ++ [UInt8.ofNat (x % 256)] := by first | rfl | (rw [← ho, venc_last (by omega)])
    refine ⟨Value.slice A6 ((out ++ [UInt8.ofNat (x % 256)]).length) (c6), ?_, ?_⟩
    rotate_left
    · rw [he0]; exact (Ow.up (OwnL.ow ho6 rfl) (hS_.1 _ (.head _)))
    all_goals (first | rfl | (simp [*]; done))
  · -- F
    refine VC.skip ?_
    refine outN ?_
    refine VC.rs ?_
    refine VO.mv ?_
    refine VO.mv ?_
    refine VO.y rfl (.cvI rfl ⟨_, Try.underlying117⟩ Try.underlying5 (u8_of_nat _)) ?_
    refine VO.y rfl (.bit (.inr (.inl rfl)) rfl rfl (or128 _ (by omega))) ?_
    refine VO.bsl (cs := [Value.int .u8 ((((x % 256) % 128 + 128 : Nat) : Int))]) 108 rfl rfl tsl22 tz5 rfl rfl (fun g7 => ?_)
    obtain ⟨mo9, cs9, hM9, hA9, hC9⟩ := h_out
    refine VO.app 102 rfl rfl rfl tsl22 tz5 rfl rfl hM9 hA9 (.row 108 _ _ _ 1 1 _ _ Try.underlying22 rfl (cellsAt_one rfl rfl)) (by simp [Value.oneCell']) bdm bd (by decide) (fun v9 m9 hN9 => ?_)
    have ho9 : OwnL .byte m9 mnil v9 (out ++ [UInt8.ofNat ((x % 256) % 128 + 128)]) := OwnL.one hC9 hN9 (rd_byteN bd)
    obtain ⟨A9, c9, rfl, l9, k9⟩ := ho9.slice
    simp only [maxLen] at k9
    refine VO.as ?_
    refine VO.k5 0 1 4 5 9 ?_
    refine VC.reg ?_
    refine VO.mv ?_
    refine VO.y rfl (.shf (.inr rfl) rfl rfl (shr7 _)) ?_
    refine VO.as ?_
    refine VO.k5 0 1 4 5 9 ?_
    refine outBN ?_
    exact outN ⟨⟨x / 128, out ++ [UInt8.ofNat ((x % 256) % 128 + 128)], A9, c9, m9⟩, ⟨by omega, by rw [← ho]; exact (venc_step (by omega) _).symm, ho9⟩, bd, ⟨⟨rfl, rfl, rfl, rfl, trivial⟩, fun _ h => Inv.sub h [102, 0]⟩⟩
end
section
set_option linter.unusedVariables false
def cCheck (c : DCommit) : Int := if 1 ≤ c.1 ∧ c.1 ≤ 1048576 then if 1 ≤ c.2.1 ∧ c.2.1 ≤ 1048576 then batchCheck c.2.2 else 2 else 2
def cFollowsAt : Int → Int → Int → List DCommit → DFault
  | _, _, _, [] => (0, 0)
  | e, n, i, c :: r => if cCheck c ≠ 0 then (cCheck c, i) else if c.2.1 - 1 ≠ n ∨ c.1 < e then (15, i) else cFollowsAt c.1 c.2.1 (i + 1) r
def cFollows (e n : Int) (l : List DCommit) : DFault := cFollowsAt e n 0 l
theorem drop_next {α : Type} {l : List α} {k : Nat} {x : α} (h : l[k]? = some x) : l.drop k = x :: l.drop (k + 1) := by
  obtain ⟨h1, h2⟩ := List.getElem?_eq_some_iff.1 h
  rw [List.drop_eq_getElem_cons h1, h2]
theorem batchCheck_ok {l : List DOp} (h : batchCheck l = 0) : l.length ≤ 8 := by
  unfold batchCheck at h
  split at h
  · omega
  · split at h
    · cases h
    · omega
theorem batchCheck_range (l : List DOp) : 0 ≤ batchCheck l ∧ batchCheck l ≤ 3 := by
  unfold batchCheck
  split
  · omega
  · split
    · omega
    · split <;> omega
theorem cCheck_range (c : DCommit) : 0 ≤ cCheck c ∧ cCheck c ≤ 3 := by
  unfold cCheck
  split
  · split
    · exact batchCheck_range _
    · omega
  · omega
theorem cCheck_ok {c : DCommit} (h : cCheck c = 0) : 1 ≤ c.1 ∧ c.1 ≤ 1048576 ∧ 1 ≤ c.2.1 ∧ c.2.1 ≤ 1048576 ∧ batchCheck c.2.2 = 0 := by
  unfold cCheck at h
  split at h
  · split at h
    · exact ⟨by omega, by omega, by omega, by omega, h⟩
    · cases h
  · cases h
theorem cFollowsAt_ok : ∀ {l : List DCommit} {e n i : Int}, (cFollowsAt e n i l).1 = 0 → ∀ c ∈ l, cCheck c = 0
  | c :: r, e, n, i, h, x, hx => by
    unfold cFollowsAt at h
    split at h
    · exact absurd h (by assumption)
    · rename_i h1
      split at h
      · cases h
      · rcases List.mem_cons.1 hx with rfl | hx
        · exact Decidable.not_not.1 h1
        · exact cFollowsAt_ok h x hx
theorem follows_step {e n i : Int} {l : List DCommit} {k : Nat} {x : DCommit} (h : l[k]? = some x) (h1 : cCheck x = 0) (h2 : ¬ ¬ x.2.1 - 1 = n) (h3 : ¬ x.1 < e) : cFollowsAt e n i (l.drop k) = cFollowsAt x.1 x.2.1 (i + 1) (l.drop (k + 1)) := by
  rw [drop_next h]
  show (if cCheck x ≠ 0 then _ else _) = _
  rw [if_neg (by simpa using h1), if_neg (by simp only [not_or]; exact ⟨h2, h3⟩)]
theorem follows_bad {e n i : Int} {l : List DCommit} {k : Nat} {x : DCommit} (h : l[k]? = some x) (h1 : ¬ cCheck x = 0) : cFollowsAt e n i (l.drop k) = (cCheck x, i) := by
  rw [drop_next h]
  show (if cCheck x ≠ 0 then _ else _) = _
  rw [if_pos h1]
theorem follows_order {e n i : Int} {l : List DCommit} {k : Nat} {x : DCommit} (h : l[k]? = some x) (h1 : cCheck x = 0) (h2 : ¬ x.2.1 - 1 = n ∨ x.1 < e) : cFollowsAt e n i (l.drop k) = (15, i) := by
  rw [drop_next h]
  show (if cCheck x ≠ 0 then _ else _) = _
  rw [if_neg (by simpa using h1), if_pos h2]
theorem all_next {α : Type} {l : List α} {k : Nat} {x : α} {p : α → Prop} (h : ∀ o ∈ l.take k, p o) (hx : l[k]? = some x) (hp : p x) : ∀ o ∈ l.take (k + 1), p o := fun o ho => by
  rw [List.take_add_one, hx] at ho
  rcases List.mem_append.1 ho with h1 | h1
  · exact h o h1
  · simp at h1; rw [h1]; exact hp
theorem bcheck_empty {l : List DOp} (h : (l.length : Int) = 0) : batchCheck l = 2 := if_pos (by omega)
theorem bcheck_long {l : List DOp} (h : (8 : Int) < l.length) : batchCheck l = 3 := by unfold batchCheck; rw [if_neg (by omega), if_pos (by omega)]
theorem bcheck_bad {l : List DOp} {k : Nat} {x : DOp} (h0 : ¬ (l.length : Int) = 0) (h1 : ¬ (8 : Int) < l.length) (hx : l[k]? = some x) (h : ¬ opCheck x = 0) : batchCheck l = opCheck x := by
  have hb : ¬ opOk x := fun e => h (opCheck_good e)
  unfold batchCheck
  rw [if_neg (by omega), if_neg (by omega), if_neg, opCheck_bad hb]
  exact fun e => hb (e x (List.mem_of_getElem? hx))
theorem bcheck_good {l : List DOp} {k : Nat} (h0 : ¬ (l.length : Int) = 0) (h1 : ¬ (8 : Int) < l.length) (h : ∀ o ∈ l.take k, opOk o) (hk : ¬ (k : Int) < l.length) : batchCheck l = 0 := by
  rw [List.take_of_length_le (by omega)] at h
  unfold batchCheck
  rw [if_neg (by omega), if_neg (by omega), if_pos h]
theorem clone_nil {m : Mem} {A : Option Addr} {c : Nat} {l : List DOp} (h : Rd (.sl TOp) m [.slice A l.length c] l) (hA : A = none) : l = [] := by
  subst hA
  obtain ⟨A', c', h1, _, _, h4⟩ := h
  rcases h4 with h4 | ⟨g, off, all, k1, _⟩
  · exact List.eq_nil_of_length_eq_zero h4
  · simp only [List.cons.injEq, Value.slice.injEq, and_true] at h1
    rw [← h1.1] at k1; cases k1
theorem commit_ext {x y : DCommit} (h1 : x.1 = y.1) (h2 : x.2.1 = y.2.1) (h3 : x.2.2 = y.2.2) : x = y := Prod.ext h1 (Prod.ext h2 h3)
theorem follows_len : ∀ {l : List DCommit} {e n i : Int}, (cFollowsAt e n i l).1 = 0 → n ≤ 1048576 → (l.length : Int) + n ≤ 1048576
  | [], _, _, _, _, h => by simpa using h
  | c :: r, e, n, i, h, hn => by
    unfold cFollowsAt at h
    split at h
    · exact absurd h (by assumption)
    · rename_i h1
      split at h
      · cases h
      · rename_i h2
        have h3 := cCheck_ok (Decidable.not_not.1 h1)
        have := follows_len h (by omega)
        simp only [List.length_cons]; omega
theorem take_one {α : Type} {l : List α} {k : Nat} {x : α} (h : l[k]? = some x) : l.take (k + 1) = l.take k ++ [x] := by rw [List.take_add_one, h]; rfl
end
section
set_option linter.unusedVariables false
set_option linter.unusedSimpArgs false
set_option maxRecDepth 4000
theorem fnOk100 : fnOk Try.prog 100 = true := by kernel_rfl
theorem fnOk54 : fnOk Try.prog 54 = true := by kernel_rfl
theorem fnOk80 : fnOk Try.prog 80 = true := by kernel_rfl
theorem fnOk83 : fnOk Try.prog 83 = true := by kernel_rfl
theorem fnOk92 : fnOk Try.prog 92 = true := by kernel_rfl
theorem fnOk93 : fnOk Try.prog 93 = true := by kernel_rfl
theorem teq69 (a0 : Int) (a1 : Int) : plainS Try.prog 69 [.int .i64 a0, .int .i64 a1] = true := by kernel_rfl
theorem tk3 : tk Try.prog 3 = some none := by kernel_rfl
theorem tk34 : tk Try.prog 34 = some none := by kernel_rfl
theorem tk40 : tk Try.prog 40 = some none := by kernel_rfl
theorem tk42 : tk Try.prog 42 = some (some 3) := by kernel_rfl
theorem tk69 : tk Try.prog 69 = some (some 2) := by kernel_rfl
theorem tsl25 : tsl Try.prog 25 = some (42, 3, 40) := by kernel_rfl
theorem tst42 : tst Try.prog 42 = some [(0, 1), (1, 1), (2, 1)] := by kernel_rfl
theorem tst69 : tst Try.prog 69 = some [(0, 1), (1, 1)] := by kernel_rfl
theorem tz42 : tz Try.prog 42 = some [.int .i64 0, .int .i64 0, .slice none 0 0] := by kernel_rfl
theorem tz69 : tz Try.prog 69 = some [.int .i64 0, .int .i64 0] := by kernel_rfl
theorem bCheck_ok (W : World) {v0 : Value} {d0 : List DOp} (h0 : Rd (.sl TOp) (wm W) [v0] d0) : CallR Try.prog 93 [v0] W (mnil) (fun v m' => v = .int .i64 (batchCheck d0)) := by
  obtain ⟨A0, c0, rfl, l0, k0⟩ := h0.slice
  simp only [maxLen] at k0
  refine CallR.ofA (n := 26) Try.func93 rfl rfl rfl ?_
  refine VC.rs ?_
  refine VO.as ?_
  refine VO.k2 0 2 ?_
  refine VC.seq ?_
  refine VC.block ?_
  refine VC.rs ?_
  refine VO.mv ?_
  refine VO.y rfl (.lenS rfl tsl40) ?_
  refine VO.y rfl (.eql rfl rfl) ?_
  refine VO.as ?_
  refine VO.k3 0 2 6 ?_
  refine VC.cond rfl (fun hc1 => ?_) (fun hc1 => ?_)
  · -- T
    refine VC.rs ?_
    refine VO.as ?_
    refine VO.kp [0] [(0, wm W)] ?_
    refine VO.k3 0 2 6 ?_
    refine VC.ret ?_
    refine outBR ?_
    refine outR ?_
    refine ⟨_, _, res_run (rs := [.tmp 2]) rfl (.tmp rfl .nil), fun W_ hI => out_of (l := []) hI [] rfl rfl (mle_refl _) (fun hS_ => ?_)⟩
    dsimp only [packV]
    all_goals (first | rfl | (congr 1; first | exact (bcheck_empty ‹_›).symm | exact (bcheck_long ‹_›).symm | exact (bcheck_bad ‹_› ‹_› ‹d0[k]? = some _› ‹_›).symm | exact (bcheck_good ‹¬ (d0.length : Int) = 0› ‹¬ (8 : Int) < d0.length› ha ‹_›).symm))
  · -- F
    refine VC.rs ?_
    refine VO.mv ?_
    refine VO.y rfl (.lenS rfl tsl40) ?_
    refine VO.y rfl (.gtr rfl rfl) ?_
    refine VO.as ?_
    refine VO.kp [0] [(0, wm W)] ?_
    refine VO.k4 0 2 6 10 ?_
    refine VC.cond rfl (fun hc2 => ?_) (fun hc2 => ?_)
    · -- FT
      refine VC.rs ?_
      refine VO.as ?_
      refine VO.k4 0 2 6 10 ?_
      refine VC.ret ?_
      refine outBR ?_
      refine outR ?_
      refine ⟨_, _, res_run (rs := [.tmp 2]) rfl (.tmp rfl .nil), fun W_ hI => out_of (l := []) hI [] rfl rfl (mle_refl _) (fun hS_ => ?_)⟩
      dsimp only [packV]
      all_goals (first | rfl | (congr 1; first | exact (bcheck_empty ‹_›).symm | exact (bcheck_long ‹_›).symm | exact (bcheck_bad ‹_› ‹_› ‹d0[k]? = some _› ‹_›).symm | exact (bcheck_good ‹¬ (d0.length : Int) = 0› ‹¬ (8 : Int) < d0.length› ha ‹_›).symm))
    · -- FF
      refine VC.skip ?_
      refine outBN ?_
      refine outN ?_
      refine VC.seq ?_
      refine VC.rs ?_
      refine VO.mv ?_
      refine VO.y rfl (.lenS rfl tsl40) ?_
      refine VO.mv ?_
      refine VO.k7 0 2 6 10 14 15 16 ?_
      refine VC.block ?_
      refine VC.loop (G := Nat) (fun k => [(16, Value.int .i64 (((k : Nat) : Int))), (0, Value.slice A0 (d0.length) (c0)), (6, Value.bool (decide (((d0.length : Nat) : Int) = 0))), (10, Value.bool (decide (8 < ((d0.length : Nat) : Int)))), (14, Value.slice A0 (d0.length) (c0)), (15, Value.int .i64 (((d0.length : Nat) : Int)))]) (fun k => [(0, wm W)]) (fun k => (k ≤ d0.length) ∧ (∀ o ∈ d0.take k, opOk o)) (fun k => d0.length - k) 0 (⟨by omega, by simp⟩) ⟨⟨rfl, rfl, rfl, rfl, rfl, rfl, trivial⟩, fun _ h => h.sub [0]⟩ ?_
      rintro k ⟨hk, ha⟩
      refine VC.rs ?_
      refine VO.y rfl (.lss rfl rfl) ?_
      refine VO.k7 0 6 10 14 15 16 17 ?_
      refine VC.seq ?_
      refine VC.cond rfl (fun hc3 => ?_) (fun hc3 => ?_)
      · -- FFT
        refine VC.skip ?_
        refine outN ?_
        refine VC.seq ?_
        refine VC.block ?_
        refine VC.rs ?_
        obtain ⟨x4, hx4⟩ : ∃ z_, (d0)[k]? = some z_ := ⟨_, List.getElem?_eq_getElem bd⟩
        obtain ⟨gg4, oo4, ec4, ea4, hce4, hre4⟩ := h0.elem hx4
        cases ea4
        obtain ⟨rfl, q4_1, q4_2⟩ := open_Op (x0 := x4.1) (x1 := x4.2.1) (x2 := x4.2.2) hre4
        simp only [maxLen] at q4_1
        simp only [maxLen] at q4_2
        refine VO.y rfl (.ixI k rfl rfl tsl40 rfl bd) ?_
        refine VO.y rfl (.ldA 0 rfl tk95 rfl hce4) ?_
        refine VO.alloc 106 rfl tz95 (fun g5 => ?_)
        refine VO.store (k := 3) (c' := [Value.bool x4.1, str (x4.2.1), str (x4.2.2)]) 106 rfl rfl (.inl tk95) rfl rfl rfl rfl rfl ?_
        refine VO.kp [106, 0] [(106, mone g5 (.cells [Value.bool x4.1, str (x4.2.1), str (x4.2.2)].toArray 95 (0, 0))), (0, wm W)] ?_
        refine VO.k8 0 4 6 10 14 15 16 17 ?_
        refine VC.rs ?_
        refine VO.y rfl (.ldA 106 rfl tk95 rfl (cellsAt_one rfl rfl)) ?_
        refine VO.callN 107 rfl fnOk100 rfl (fun W hW => opCheck_ok W (Rd.mono hre4 (hW.at (i := 0) rfl))) (fun v7 m7 hv7 => ?_)
        subst hv7
        refine VO.as ?_
        refine VO.k9 0 4 5 6 10 14 15 16 17 ?_
        refine VC.rs ?_
        refine VO.mv ?_
        refine VO.y rfl (.neq rfl rfl) ?_
        refine VO.k10 0 4 5 6 10 14 15 16 17 23 ?_
        refine VC.cond rfl (fun hc8 => ?_) (fun hc8 => ?_)
        · -- FFTT
          refine VC.rs ?_
          refine VO.mv ?_
          refine VO.as ?_
          refine VO.kp [106, 0] [(106, mone g5 (.cells [Value.bool x4.1, str (x4.2.1), str (x4.2.2)].toArray 95 (0, 0))), (0, wm W)] ?_
          refine VO.k11 0 2 4 5 6 10 14 15 16 17 23 ?_
          refine VC.ret ?_
          refine outBR ?_
          refine outR ?_
          refine outR ?_
          refine outBR ?_
          refine outR ?_
          refine ⟨_, _, res_run (rs := [.tmp 2]) rfl (.tmp rfl .nil), fun W_ hI => out_of (l := []) hI [] rfl rfl (mle_refl _) (fun hS_ => ?_)⟩
          dsimp only [packV]
          all_goals (first | rfl | (congr 1; first | exact (bcheck_empty ‹_›).symm | exact (bcheck_long ‹_›).symm | exact (bcheck_bad ‹_› ‹_› ‹d0[k]? = some _› ‹_›).symm | exact (bcheck_good ‹¬ (d0.length : Int) = 0› ‹¬ (8 : Int) < d0.length› ha ‹_›).symm))
        · -- FFTF
          refine VC.skip ?_
          refine outBN ?_
          refine outN ?_
          refine VC.reg ?_
          refine VO.y rfl (.add (c := ((k + 1 : Nat) : Int)) rfl rfl (by omega) ⟨bd, bd⟩) ?_
          refine VO.mv ?_
          refine VO.kp [106, 0] [(106, mone g5 (.cells [Value.bool x4.1, str (x4.2.1), str (x4.2.2)].toArray 95 (0, 0))), (0, wm W)] ?_
          refine VO.k10 0 4 5 6 10 14 15 16 17 23 ?_
          exact outN ⟨k + 1, ⟨by omega, by exact all_next ha ‹d0[k]? = some _› (opOk_of (Decidable.not_not.1 ‹¬ ¬ _›))⟩, bd, ⟨⟨rfl, rfl, rfl, rfl, rfl, rfl, trivial⟩, fun _ h => Inv.sub h [0]⟩⟩
      · -- FFF
        refine VC.exit ?_
        refine outE ?_
        refine outE ?_
        refine outBB ?_
        refine outN ?_
        refine VC.rs ?_
        refine VO.as ?_
        refine VO.kp [0] [(0, wm W)] ?_
        refine VO.k8 0 2 6 10 14 15 16 17 ?_
        refine VC.ret ?_
        refine ⟨_, _, res_run (rs := [.tmp 2]) rfl (.tmp rfl .nil), fun W_ hI => out_of (l := []) hI [] rfl rfl (mle_refl _) (fun hS_ => ?_)⟩
        dsimp only [packV]
        all_goals (first | rfl | (congr 1; first | exact (bcheck_empty ‹_›).symm | exact (bcheck_long ‹_›).symm | exact (bcheck_bad ‹_› ‹_› ‹d0[k]? = some _› ‹_›).symm | exact (bcheck_good ‹¬ (d0.length : Int) = 0› ‹¬ (8 : Int) < d0.length› ha ‹_›).symm))
theorem cCheck_ok_ (W : World) {v0 : List Value} {d0 : DCommit} (h0 : Rd TCommit (wm W) v0 d0) : CallR Try.prog 80 [.agg v0.toArray] W (mnil) (fun v m' => v = .int .i64 (cCheck d0)) := by
  obtain ⟨p0_A2, p0_c2, rfl, p0_0, p0_1, p0_2⟩ := open_Commit (x0 := d0.1) (x1 := d0.2.1) (x2 := d0.2.2) h0
  simp only [inK] at p0_0
  simp only [inK] at p0_1
  have p0_r2 := Rd.room p0_2
  refine CallR.ofA (n := 16) Try.func80 rfl rfl rfl ?_
  refine VC.rs ?_
  refine VO.box (cs := [Value.int .i64 (d0.1), Value.int .i64 (d0.2.1), Value.slice p0_A2 (d0.2.2.length) (p0_c2)]) 102 rfl rfl rfl (fun g1 => ?_)
  refine VO.as ?_
  refine VO.k3 0 1 2 ?_
  refine VC.seq ?_
  refine VC.rs ?_
  refine VO.y rfl (.fa rfl tst42 rfl) ?_
  refine VO.y rfl (.ld1 102 rfl tk3 rfl (cellsAt_one rfl rfl)) ?_
  refine VO.callN 103 rfl fnOk92 rfl (fun W hW => within_ok W d0.1 bdk) (fun v3 m3 hv3 => ?_)
  subst hv3
  refine VO.y rfl (.notD rfl) ?_
  refine VO.mv ?_
  refine VO.dec (t := 7) rfl (fun hc4 => ?_) (fun hc4 => ?_)
  · -- T
    refine VO.gN ?_
    refine VO.gN ?_
    refine VO.gN ?_
    refine VO.gN ?_
    refine VO.y rfl (.pT rfl rfl) ?_
    refine VO.k4 0 1 2 12 ?_
    refine VC.condT rfl ?_
    refine VC.rs ?_
    refine VO.as ?_
    refine VO.kp [102, 0] [(102, mone g1 (.cells [Value.int .i64 (d0.1), Value.int .i64 (d0.2.1), Value.slice p0_A2 (d0.2.2.length) (p0_c2)].toArray 42 (0, 0))), (0, wm W)] ?_
    refine VO.k4 0 1 2 12 ?_
    refine VC.ret ?_
    refine outR ?_
    refine ⟨_, _, res_run (rs := [.tmp 2]) rfl (.tmp rfl .nil), fun W_ hI => out_of (l := []) hI [] rfl rfl (mle_refl _) (fun hS_ => ?_)⟩
    dsimp only [packV]
    all_goals (first | rfl | (unfold cCheck; congr 1; split <;> (try split) <;> first | rfl | omega))
  · -- F
    refine VO.gy rfl ⟨_, rfl, rfl⟩ (.fa rfl tst42 rfl) ?_
    refine VO.gy rfl ⟨_, rfl, rfl⟩ (.ld1 102 rfl tk3 rfl (cellsAt_one rfl rfl)) ?_
    refine VO.gcallN 105 rfl ⟨_, rfl, rfl⟩ fnOk92 rfl (fun W hW => within_ok W d0.2.1 bdk) (fun v5 m5 hv5 => ?_)
    subst hv5
    refine VO.gy rfl ⟨_, rfl, rfl⟩ (.notD rfl) ?_
    refine VO.y rfl (.pF rfl rfl) ?_
    refine VO.k4 0 1 2 12 ?_
    refine VC.cond rfl (fun hc6 => ?_) (fun hc6 => ?_)
    · -- FT
      refine VC.rs ?_
      refine VO.as ?_
      refine VO.kp [102, 0] [(102, mone g1 (.cells [Value.int .i64 (d0.1), Value.int .i64 (d0.2.1), Value.slice p0_A2 (d0.2.2.length) (p0_c2)].toArray 42 (0, 0))), (0, wm W)] ?_
      refine VO.k4 0 1 2 12 ?_
      refine VC.ret ?_
      refine outR ?_
      refine ⟨_, _, res_run (rs := [.tmp 2]) rfl (.tmp rfl .nil), fun W_ hI => out_of (l := []) hI [] rfl rfl (mle_refl _) (fun hS_ => ?_)⟩
      dsimp only [packV]
      all_goals (first | rfl | (unfold cCheck; congr 1; split <;> (try split) <;> first | rfl | omega))
    · -- FF
      refine VC.skip ?_
      refine outN ?_
      refine VC.rs ?_
      refine VO.y rfl (.fa rfl tst42 rfl) ?_
      refine VO.y rfl (.ld1 102 rfl tk40 rfl (cellsAt_one rfl rfl)) ?_
      refine VO.callN 107 rfl fnOk93 rfl (fun W hW => bCheck_ok W (Rd.mono p0_2 (hW.at (i := 0) rfl))) (fun v7 m7 hv7 => ?_)
      subst hv7
      have hfa8 := batchCheck_range d0.2.2
      refine VO.as ?_
      refine VO.kp [102, 0] [(102, mone g1 (.cells [Value.int .i64 (d0.1), Value.int .i64 (d0.2.1), Value.slice p0_A2 (d0.2.2.length) (p0_c2)].toArray 42 (0, 0))), (0, wm W)] ?_
      refine VO.k4 0 1 2 12 ?_
      refine VC.ret ?_
      refine ⟨_, _, res_run (rs := [.tmp 2]) rfl (.tmp rfl .nil), fun W_ hI => out_of (l := []) hI [] rfl rfl (mle_refl _) (fun hS_ => ?_)⟩
      dsimp only [packV]
      all_goals (first | rfl | (unfold cCheck; congr 1; split <;> (try split) <;> first | rfl | omega))
theorem fin1_follows_ok {P : Prop} (h : P := by first | omega | (simp only [List.length_append, List.length_nil, List.length_cons, List.length_take, List.length_drop] at *; omega) | (have := cCheck_ok ‹cCheck _ = 0›; omega)) : P := h
theorem follows_ok (W : World) (d0 : Int) (h0 : inK .i64 d0) (d1 : Int) (h1 : inK .i64 d1) {v2 : Value} {d2 : List DCommit} (h2 : Rd (.sl TCommit) (wm W) [v2] d2) : CallR Try.prog 54 [.int .i64 d0, .int .i64 d1, v2] W (mnil) (fun v m' => ∃ (s0 : List Value), v = .agg s0.toArray ∧ Ow TFault m' s0 (cFollows d0 d1 d2)) := by
  have h0' := h0; simp only [inK] at h0'
  have h1' := h1; simp only [inK] at h1'
  obtain ⟨A2, c2, rfl, l2, k2⟩ := h2.slice
  simp only [maxLen] at k2
  refine CallR.ofA (n := 49) Try.func54 rfl rfl rfl ?_
  refine VC.rs ?_
  refine VO.alloc 102 rfl tz69 (fun g1 => ?_)
  refine VO.k4 0 1 2 6 ?_
  refine VC.seq ?_
  refine VC.rs ?_
  refine VO.mv ?_
  refine VO.y rfl (.lenS rfl tsl25) ?_
  refine VO.mv ?_
  refine VO.k7 0 1 2 6 10 11 12 ?_
  refine VC.block ?_
  refine VC.loop (G := Nat × Int × Int) (fun g => [(0, Value.int .i64 ((g.2.1))), (1, Value.int .i64 ((g.2.2))), (12, Value.int .i64 ((((g.1) : Nat) : Int))), (2, Value.slice A2 (d2.length) (c2)), (6, Value.pointer (some ⟨g1, 0, none⟩)), (10, Value.slice A2 (d2.length) (c2)), (11, Value.int .i64 (((d2.length : Nat) : Int)))]) (fun g => [(102, mone g1 (.cells [Value.int .i64 (0), Value.int .i64 (0)].toArray 69 (0, 0))), (0, wm W)]) (fun g => ((g.1) ≤ d2.length) ∧ (cFollows d0 d1 d2 = cFollowsAt (g.2.1) (g.2.2) (g.1) (d2.drop (g.1)))) (fun g => d2.length - (g.1)) (0, d0, d1) (⟨by omega, by rfl⟩) ⟨⟨rfl, rfl, rfl, rfl, rfl, rfl, rfl, trivial⟩, fun _ h => h.sub [102, 0]⟩ ?_
  rintro ⟨k, e, nn⟩ ⟨hk, hf⟩
  replace hk : k ≤ d2.length := hk
  replace hf : cFollows d0 d1 d2 = cFollowsAt e nn k (d2.drop k) := hf
  show VC _ _ _ _ _ [(0, Value.int .i64 (e)), (1, Value.int .i64 (nn)), (12, Value.int .i64 (((k : Nat) : Int))), (2, Value.slice A2 (d2.length) (c2)), (6, Value.pointer (some ⟨g1, 0, none⟩)), (10, Value.slice A2 (d2.length) (c2)), (11, Value.int .i64 (((d2.length : Nat) : Int)))] [(102, mone g1 (.cells [Value.int .i64 (0), Value.int .i64 (0)].toArray 69 (0, 0))), (0, wm W)]
  refine VC.rs ?_
  refine VO.y rfl (.lss rfl rfl) ?_
  refine VO.kp [102, 0] [(102, mone g1 (.cells [Value.int .i64 (0), Value.int .i64 (0)].toArray 69 (0, 0))), (0, wm W)] ?_
  refine VO.k8 0 1 2 6 10 11 12 13 ?_
  refine VC.seq ?_
  refine VC.cond rfl (fun hc3 => ?_) (fun hc3 => ?_)
  · -- T
    refine VC.skip ?_
    refine outN ?_
    refine VC.seq ?_
    refine VC.block ?_
    refine VC.rs ?_
    refine VO.mv ?_
    obtain ⟨x4, hx4⟩ : ∃ z_, (d2)[k]? = some z_ := ⟨_, List.getElem?_eq_getElem (by exact fin1_follows_ok)⟩
    obtain ⟨gg4, oo4, ec4, ea4, hce4, hre4⟩ := h2.elem hx4
    cases ea4
    obtain ⟨q4_A2, q4_c2, rfl, q4_0, q4_1, q4_2⟩ := open_Commit (x0 := x4.1) (x1 := x4.2.1) (x2 := x4.2.2) hre4
    simp only [inK] at q4_0
    simp only [inK] at q4_1
    have q4_r2 := Rd.room q4_2
    refine VO.y rfl (.ixI k rfl rfl tsl25 rfl (by exact fin1_follows_ok)) ?_
    refine VO.y rfl (.ldA 0 rfl tk42 rfl hce4) ?_
    refine VO.alloc 106 rfl tz42 (fun g5 => ?_)
    refine VO.as ?_
    refine VO.store (k := 3) (c' := [Value.int .i64 (x4.1), Value.int .i64 (x4.2.1), Value.slice q4_A2 (x4.2.2.length) (q4_c2)]) 106 rfl rfl (.inl tk42) rfl rfl rfl rfl rfl ?_
    refine VO.k10 0 1 2 6 7 8 10 11 12 13 ?_
    refine VC.rs ?_
    refine VO.y rfl (.ldA 106 rfl tk42 rfl (cellsAt_one rfl rfl)) ?_
    refine VO.callN 107 rfl fnOk80 rfl (fun W hW => cCheck_ok_ W (Rd.mono hre4 (hW.at (i := 0) rfl))) (fun v7 m7 hv7 => ?_)
    subst hv7
    have hfa8 := cCheck_range x4
    refine VO.mv ?_
    refine VO.y rfl (.bst (cs := [Value.int .i64 (cCheck x4), Value.int .i64 (((k : Nat) : Int))]) rfl tst69 tz69 rfl) ?_
    refine VO.alloc 110 rfl tz69 (fun g9 => ?_)
    refine VO.store (k := 2) (c' := [Value.int .i64 (cCheck x4), Value.int .i64 (((k : Nat) : Int))]) 110 rfl rfl (.inl tk69) rfl rfl rfl rfl rfl ?_
    refine VO.k11 0 1 2 6 7 8 9 10 11 12 13 ?_
    refine VC.seq ?_
    refine VC.rs ?_
    refine VO.y rfl (.fa rfl tst69 rfl) ?_
    refine VO.y rfl (.ld1 110 rfl tk34 rfl (cellsAt_one rfl rfl)) ?_
    refine VO.y rfl (.eql rfl rfl) ?_
    refine VO.mv ?_
    refine VO.dec (t := 24) rfl (fun hc11 => ?_) (fun hc11 => ?_)
    · -- TT
      refine VO.gy rfl ⟨_, rfl, rfl⟩ (.fa rfl tst42 rfl) ?_
      refine VO.gy rfl ⟨_, rfl, rfl⟩ (.ld1 106 rfl tk3 rfl (cellsAt_one rfl rfl)) ?_
      refine VO.gy rfl ⟨_, rfl, rfl⟩ (.sub rfl rfl rfl ⟨by exact fin1_follows_ok, by exact fin1_follows_ok⟩) ?_
      refine VO.gy rfl ⟨_, rfl, rfl⟩ (.mv rfl) ?_
      refine VO.gy rfl ⟨_, rfl, rfl⟩ (.neq rfl rfl) ?_
      refine VO.gy rfl ⟨_, rfl, rfl⟩ (.mv rfl) ?_
      refine VO.dec (t := 30) rfl (fun hc12 => ?_) (fun hc12 => ?_)
      · -- TTT
        refine VO.gN ?_
        refine VO.gN ?_
        refine VO.gN ?_
        refine VO.gN ?_
        refine VO.gy rfl ⟨_, rfl, rfl⟩ (.pT rfl rfl) ?_
        refine VO.y rfl (.pT rfl rfl) ?_
        refine VO.kp [110, 106, 102, 0] [(110, mone g9 (.cells [Value.int .i64 (cCheck x4), Value.int .i64 (((k : Nat) : Int))].toArray 69 (0, 0))), (106, mone g5 (.cells [Value.int .i64 (x4.1), Value.int .i64 (x4.2.1), Value.slice q4_A2 (x4.2.2.length) (q4_c2)].toArray 42 (0, 0))), (102, mone g1 (.cells [Value.int .i64 (0), Value.int .i64 (0)].toArray 69 (0, 0))), (0, wm W)] ?_
        refine VO.k12 0 1 2 6 7 8 9 10 11 12 13 36 ?_
        refine VC.condT rfl ?_
        refine VC.reg ?_
        refine VO.y rfl (.fa rfl tst69 rfl) ?_
        refine VO.store (k := 1) (c' := [Value.int .i64 (15), Value.int .i64 (((k : Nat) : Int))]) 110 rfl rfl (.inr ⟨tk34, rfl⟩) rfl rfl rfl rfl rfl ?_
        refine VO.k12 0 1 2 6 7 8 9 10 11 12 13 36 ?_
        refine outN ?_
        refine VC.seq ?_
        refine VC.rs ?_
        refine VO.y rfl (.ldA 110 rfl tk69 rfl (cellsAt_one rfl rfl)) ?_
        refine VO.mv ?_
        refine VO.y rfl (.bst (cs := [Value.int .i64 (0), Value.int .i64 (((k : Nat) : Int))]) rfl tst69 tz69 rfl) ?_
        refine VO.y rfl (.stneq (p := 15 = 0 ∧ ((k : Nat) : Int) = ((k : Nat) : Int)) rfl rfl (teq69 15 ((k : Nat) : Int)) (teq69 0 ((k : Nat) : Int)) (by simp [ceq, ba_toList])) ?_
        refine VO.k13 0 1 2 6 7 8 9 10 11 12 13 36 41 ?_
        refine VC.cond rfl (fun hc13 => ?_) (fun hc13 => ?_)
        · -- TTTT
          refine VC.rs ?_
          refine VO.y rfl (.ldA 110 rfl tk69 rfl (cellsAt_one rfl rfl)) ?_
          refine VO.store (k := 2) (c' := [Value.int .i64 (15), Value.int .i64 (((k : Nat) : Int))]) 102 rfl rfl (.inl tk69) rfl rfl rfl rfl rfl ?_
          refine VO.kp [110, 106, 102, 0] [(110, mone g9 (.cells [Value.int .i64 (15), Value.int .i64 (((k : Nat) : Int))].toArray 69 (0, 0))), (106, mone g5 (.cells [Value.int .i64 (x4.1), Value.int .i64 (x4.2.1), Value.slice q4_A2 (x4.2.2.length) (q4_c2)].toArray 42 (0, 0))), (102, mone g1 (.cells [Value.int .i64 (15), Value.int .i64 (((k : Nat) : Int))].toArray 69 (0, 0))), (0, wm W)] ?_
          refine VO.k13 0 1 2 6 7 8 9 10 11 12 13 36 41 ?_
          refine VC.ret ?_
          refine outR ?_
          refine outBR ?_
          refine outR ?_
          refine outR ?_
          refine outBR ?_
          refine outR ?_
          refine ⟨_, _, res_run (rs := [.cell 6 69]) rfl (.agg 102 rfl tk69 rfl ⟨_, _, _, mone_self _ _, Nat.le_of_ble_eq_true rfl, rfl⟩ .nil), fun W_ hI => out_of (l := []) hI [] rfl rfl (mle_refl _) (fun hS_ => ?_)⟩
          dsimp only [packV]
          have he0 : (cFollows d0 d1 d2 : Ty.Den TFault) = (15, ((k : Nat) : Int)) := by first | rfl | (first | (rw [hf, List.drop_of_length_le (by omega)]; rfl) | (rw [hf, follows_bad ‹d2[k]? = some _› (by first | assumption | omega)]) | (rw [hf, follows_order ‹d2[k]? = some _› (by assumption) (by omega)]) | (exfalso; omega))
          refine ⟨[Value.int .i64 (15), Value.int .i64 (((k : Nat) : Int))], ?_, ?_⟩
          rotate_left
          · rw [he0]; exact (Ow.of (m := mnil) rfl (mk_Fault (m := _) 15 ((k : Nat) : Int) (by simp only [inK]; (exact fin1_follows_ok)) (by simp only [inK]; (exact fin1_follows_ok))))
          all_goals (first | rfl | (rfl))
        · -- TTTF
          refine VC.skip ?_
          refine outN ?_
          refine VC.regD _ 5 [(0, true), (1, true), (2, true), (3, true), (4, true)] follows (by kernel_rfl) (fun _ h => h.sub [110, 106, 102, 0]) ?_
          refine VD.y rfl rfl (.inl rfl) (.fa rfl tst42 rfl) ?_
          refine VD.y rfl rfl (.inl rfl) (.ld1 106 rfl tk3 rfl (cellsAt_one rfl rfl)) ?_
          refine VD.y rfl rfl (.inl rfl) (.fa rfl tst42 rfl) ?_
          refine VD.y rfl rfl (.inl rfl) (.ld1 106 rfl tk3 rfl (cellsAt_one rfl rfl)) ?_
          refine VD.y rfl rfl (.inl rfl) (.as rfl) ?_
          refine VD.nil rfl ?_ rfl
          refine VO.as ?_
          refine VO.kp [110, 106, 102, 0] [(110, mone g9 (.cells [Value.int .i64 (15), Value.int .i64 (((k : Nat) : Int))].toArray 69 (0, 0))), (106, mone g5 (.cells [Value.int .i64 (x4.1), Value.int .i64 (x4.2.1), Value.slice q4_A2 (x4.2.2.length) (q4_c2)].toArray 42 (0, 0))), (102, mone g1 (.cells [Value.int .i64 (0), Value.int .i64 (0)].toArray 69 (0, 0))), (0, wm W)] ?_
          refine VO.k13 0 1 2 6 7 8 9 10 11 12 13 36 41 ?_
          refine outBN ?_
          refine outN ?_
          refine VC.reg ?_
          refine VO.y rfl (.add (c := ((k + 1 : Nat) : Int)) rfl rfl (by omega) ⟨by exact fin1_follows_ok, by exact fin1_follows_ok⟩) ?_
          refine VO.mv ?_
          refine VO.k13 0 1 2 6 7 8 9 10 11 12 13 36 41 ?_
          exact outN ⟨⟨k + 1, x4.1, x4.2.1⟩, ⟨by omega, by first | (exfalso; omega) | (rw [hf, follows_step ‹d2[k]? = some _› (by first | assumption | omega) (by omega) (by omega)]; rfl)⟩, by exact fin1_follows_ok, ⟨⟨rfl, rfl, rfl, rfl, rfl, rfl, rfl, trivial⟩, fun _ h => Inv.sub h [102, 0]⟩⟩
      · -- TTF
        refine VO.gy rfl ⟨_, rfl, rfl⟩ (.fa rfl tst42 rfl) ?_
        refine VO.gy rfl ⟨_, rfl, rfl⟩ (.ld1 106 rfl tk3 rfl (cellsAt_one rfl rfl)) ?_
        refine VO.gy rfl ⟨_, rfl, rfl⟩ (.mv rfl) ?_
        refine VO.gy rfl ⟨_, rfl, rfl⟩ (.lss rfl rfl) ?_
        refine VO.gy rfl ⟨_, rfl, rfl⟩ (.pF rfl rfl) ?_
        refine VO.y rfl (.pT rfl rfl) ?_
        refine VO.kp [110, 106, 102, 0] [(110, mone g9 (.cells [Value.int .i64 (cCheck x4), Value.int .i64 (((k : Nat) : Int))].toArray 69 (0, 0))), (106, mone g5 (.cells [Value.int .i64 (x4.1), Value.int .i64 (x4.2.1), Value.slice q4_A2 (x4.2.2.length) (q4_c2)].toArray 42 (0, 0))), (102, mone g1 (.cells [Value.int .i64 (0), Value.int .i64 (0)].toArray 69 (0, 0))), (0, wm W)] ?_
        refine VO.k12 0 1 2 6 7 8 9 10 11 12 13 36 ?_
        refine VC.cond rfl (fun hc14 => ?_) (fun hc14 => ?_)
        · -- TTFT
          refine VC.reg ?_
          refine VO.y rfl (.fa rfl tst69 rfl) ?_
          refine VO.store (k := 1) (c' := [Value.int .i64 (15), Value.int .i64 (((k : Nat) : Int))]) 110 rfl rfl (.inr ⟨tk34, rfl⟩) rfl rfl rfl rfl rfl ?_
          refine VO.k12 0 1 2 6 7 8 9 10 11 12 13 36 ?_
          refine outN ?_
          refine VC.seq ?_
          refine VC.rs ?_
          refine VO.y rfl (.ldA 110 rfl tk69 rfl (cellsAt_one rfl rfl)) ?_
          refine VO.mv ?_
          refine VO.y rfl (.bst (cs := [Value.int .i64 (0), Value.int .i64 (((k : Nat) : Int))]) rfl tst69 tz69 rfl) ?_
          refine VO.y rfl (.stneq (p := 15 = 0 ∧ ((k : Nat) : Int) = ((k : Nat) : Int)) rfl rfl (teq69 15 ((k : Nat) : Int)) (teq69 0 ((k : Nat) : Int)) (by simp [ceq, ba_toList])) ?_
          refine VO.k13 0 1 2 6 7 8 9 10 11 12 13 36 41 ?_
          refine VC.cond rfl (fun hc15 => ?_) (fun hc15 => ?_)
          · -- TTFTT
            refine VC.rs ?_
            refine VO.y rfl (.ldA 110 rfl tk69 rfl (cellsAt_one rfl rfl)) ?_
            refine VO.store (k := 2) (c' := [Value.int .i64 (15), Value.int .i64 (((k : Nat) : Int))]) 102 rfl rfl (.inl tk69) rfl rfl rfl rfl rfl ?_
            refine VO.kp [110, 106, 102, 0] [(110, mone g9 (.cells [Value.int .i64 (15), Value.int .i64 (((k : Nat) : Int))].toArray 69 (0, 0))), (106, mone g5 (.cells [Value.int .i64 (x4.1), Value.int .i64 (x4.2.1), Value.slice q4_A2 (x4.2.2.length) (q4_c2)].toArray 42 (0, 0))), (102, mone g1 (.cells [Value.int .i64 (15), Value.int .i64 (((k : Nat) : Int))].toArray 69 (0, 0))), (0, wm W)] ?_
            refine VO.k13 0 1 2 6 7 8 9 10 11 12 13 36 41 ?_
            refine VC.ret ?_
            refine outR ?_
            refine outBR ?_
            refine outR ?_
            refine outR ?_
            refine outBR ?_
            refine outR ?_
            refine ⟨_, _, res_run (rs := [.cell 6 69]) rfl (.agg 102 rfl tk69 rfl ⟨_, _, _, mone_self _ _, Nat.le_of_ble_eq_true rfl, rfl⟩ .nil), fun W_ hI => out_of (l := []) hI [] rfl rfl (mle_refl _) (fun hS_ => ?_)⟩
            dsimp only [packV]
            have he0 : (cFollows d0 d1 d2 : Ty.Den TFault) = (15, ((k : Nat) : Int)) := by first | rfl | (first | (rw [hf, List.drop_of_length_le (by omega)]; rfl) | (rw [hf, follows_bad ‹d2[k]? = some _› (by first | assumption | omega)]) | (rw [hf, follows_order ‹d2[k]? = some _› (by assumption) (by omega)]) | (exfalso; omega))
            refine ⟨[Value.int .i64 (15), Value.int .i64 (((k : Nat) : Int))], ?_, ?_⟩
            rotate_left
            · rw [he0]; exact (Ow.of (m := mnil) rfl (mk_Fault (m := _) 15 ((k : Nat) : Int) (by simp only [inK]; (exact fin1_follows_ok)) (by simp only [inK]; (exact fin1_follows_ok))))
            all_goals (first | rfl | (rfl))
          · -- TTFTF
            refine VC.skip ?_
            refine outN ?_
            refine VC.regD _ 5 [(0, true), (1, true), (2, true), (3, true), (4, true)] follows (by kernel_rfl) (fun _ h => h.sub [110, 106, 102, 0]) ?_
            refine VD.y rfl rfl (.inl rfl) (.fa rfl tst42 rfl) ?_
            refine VD.y rfl rfl (.inl rfl) (.ld1 106 rfl tk3 rfl (cellsAt_one rfl rfl)) ?_
            refine VD.y rfl rfl (.inl rfl) (.fa rfl tst42 rfl) ?_
            refine VD.y rfl rfl (.inl rfl) (.ld1 106 rfl tk3 rfl (cellsAt_one rfl rfl)) ?_
            refine VD.y rfl rfl (.inl rfl) (.as rfl) ?_
            refine VD.nil rfl ?_ rfl
            refine VO.as ?_
            refine VO.kp [110, 106, 102, 0] [(110, mone g9 (.cells [Value.int .i64 (15), Value.int .i64 (((k : Nat) : Int))].toArray 69 (0, 0))), (106, mone g5 (.cells [Value.int .i64 (x4.1), Value.int .i64 (x4.2.1), Value.slice q4_A2 (x4.2.2.length) (q4_c2)].toArray 42 (0, 0))), (102, mone g1 (.cells [Value.int .i64 (0), Value.int .i64 (0)].toArray 69 (0, 0))), (0, wm W)] ?_
            refine VO.k13 0 1 2 6 7 8 9 10 11 12 13 36 41 ?_
            refine outBN ?_
            refine outN ?_
            refine VC.reg ?_
            refine VO.y rfl (.add (c := ((k + 1 : Nat) : Int)) rfl rfl (by omega) ⟨by exact fin1_follows_ok, by exact fin1_follows_ok⟩) ?_
            refine VO.mv ?_
            refine VO.k13 0 1 2 6 7 8 9 10 11 12 13 36 41 ?_
            exact outN ⟨⟨k + 1, x4.1, x4.2.1⟩, ⟨by omega, by first | (exfalso; omega) | (rw [hf, follows_step ‹d2[k]? = some _› (by first | assumption | omega) (by omega) (by omega)]; rfl)⟩, by exact fin1_follows_ok, ⟨⟨rfl, rfl, rfl, rfl, rfl, rfl, rfl, trivial⟩, fun _ h => Inv.sub h [102, 0]⟩⟩
        · -- TTFF
          refine VC.skip ?_
          refine outN ?_
          refine VC.seq ?_
          refine VC.rs ?_
          refine VO.y rfl (.ldA 110 rfl tk69 rfl (cellsAt_one rfl rfl)) ?_
          refine VO.mv ?_
          refine VO.y rfl (.bst (cs := [Value.int .i64 (0), Value.int .i64 (((k : Nat) : Int))]) rfl tst69 tz69 rfl) ?_
          refine VO.y rfl (.stneq (p := (cCheck x4) = 0 ∧ ((k : Nat) : Int) = ((k : Nat) : Int)) rfl rfl (teq69 (cCheck x4) ((k : Nat) : Int)) (teq69 0 ((k : Nat) : Int)) (by simp [ceq, ba_toList])) ?_
          refine VO.k13 0 1 2 6 7 8 9 10 11 12 13 36 41 ?_
          refine VC.cond rfl (fun hc16 => ?_) (fun hc16 => ?_)
          · -- TTFFT
            refine VC.rs ?_
            refine VO.y rfl (.ldA 110 rfl tk69 rfl (cellsAt_one rfl rfl)) ?_
            refine VO.store (k := 2) (c' := [Value.int .i64 (cCheck x4), Value.int .i64 (((k : Nat) : Int))]) 102 rfl rfl (.inl tk69) rfl rfl rfl rfl rfl ?_
            refine VO.k13 0 1 2 6 7 8 9 10 11 12 13 36 41 ?_
            refine VC.ret ?_
            refine outR ?_
            refine outBR ?_
            refine outR ?_
            refine outR ?_
            refine outBR ?_
            refine outR ?_
            refine ⟨_, _, res_run (rs := [.cell 6 69]) rfl (.agg 102 rfl tk69 rfl ⟨_, _, _, mone_self _ _, Nat.le_of_ble_eq_true rfl, rfl⟩ .nil), fun W_ hI => out_of (l := []) hI [] rfl rfl (mle_refl _) (fun hS_ => ?_)⟩
            dsimp only [packV]
            have he0 : (cFollows d0 d1 d2 : Ty.Den TFault) = (cCheck x4, ((k : Nat) : Int)) := by first | rfl | (first | (rw [hf, List.drop_of_length_le (by omega)]; rfl) | (rw [hf, follows_bad ‹d2[k]? = some _› (by first | assumption | omega)]) | (rw [hf, follows_order ‹d2[k]? = some _› (by assumption) (by omega)]) | (exfalso; omega))
            refine ⟨[Value.int .i64 (cCheck x4), Value.int .i64 (((k : Nat) : Int))], ?_, ?_⟩
            rotate_left
            · rw [he0]; exact (Ow.of (m := mnil) rfl (mk_Fault (m := _) (cCheck x4) ((k : Nat) : Int) (by simp only [inK]; (exact fin1_follows_ok)) (by simp only [inK]; (exact fin1_follows_ok))))
            all_goals (first | rfl | (rfl))
          · -- TTFFF
            refine VC.skip ?_
            refine outN ?_
            refine VC.regD _ 5 [(0, true), (1, true), (2, true), (3, true), (4, true)] follows (by kernel_rfl) (fun _ h => h.sub [110, 106, 102, 0]) ?_
            refine VD.y rfl rfl (.inl rfl) (.fa rfl tst42 rfl) ?_
            refine VD.y rfl rfl (.inl rfl) (.ld1 106 rfl tk3 rfl (cellsAt_one rfl rfl)) ?_
            refine VD.y rfl rfl (.inl rfl) (.fa rfl tst42 rfl) ?_
            refine VD.y rfl rfl (.inl rfl) (.ld1 106 rfl tk3 rfl (cellsAt_one rfl rfl)) ?_
            refine VD.y rfl rfl (.inl rfl) (.as rfl) ?_
            refine VD.nil rfl ?_ rfl
            refine VO.as ?_
            refine VO.k13 0 1 2 6 7 8 9 10 11 12 13 36 41 ?_
            refine outBN ?_
            refine outN ?_
            refine VC.reg ?_
            refine VO.y rfl (.add (c := ((k + 1 : Nat) : Int)) rfl rfl (by omega) ⟨by exact fin1_follows_ok, by exact fin1_follows_ok⟩) ?_
            refine VO.mv ?_
            refine VO.kp [110, 106, 102, 0] [(110, mone g9 (.cells [Value.int .i64 (cCheck x4), Value.int .i64 (((k : Nat) : Int))].toArray 69 (0, 0))), (106, mone g5 (.cells [Value.int .i64 (x4.1), Value.int .i64 (x4.2.1), Value.slice q4_A2 (x4.2.2.length) (q4_c2)].toArray 42 (0, 0))), (102, mone g1 (.cells [Value.int .i64 (0), Value.int .i64 (0)].toArray 69 (0, 0))), (0, wm W)] ?_
            refine VO.k13 0 1 2 6 7 8 9 10 11 12 13 36 41 ?_
            exact outN ⟨⟨k + 1, x4.1, x4.2.1⟩, ⟨by omega, by first | (exfalso; omega) | (rw [hf, follows_step ‹d2[k]? = some _› (by first | assumption | omega) (by omega) (by omega)]; rfl)⟩, by exact fin1_follows_ok, ⟨⟨rfl, rfl, rfl, rfl, rfl, rfl, rfl, trivial⟩, fun _ h => Inv.sub h [102, 0]⟩⟩
    · -- TF
      refine VO.gN ?_
      refine VO.gN ?_
      refine VO.gN ?_
      refine VO.gN ?_
      refine VO.gN ?_
      refine VO.gN ?_
      refine VO.gn rfl (.inr ⟨_, rfl, rfl⟩) ?_
      refine VO.gn rfl (.inr ⟨_, rfl, rfl⟩) ?_
      refine VO.gn rfl (.inr ⟨_, rfl, rfl⟩) ?_
      refine VO.gn rfl (.inr ⟨_, rfl, rfl⟩) ?_
      refine VO.gN ?_
      refine VO.y rfl (.pF rfl rfl) ?_
      refine VO.kp [110, 106, 102, 0] [(110, mone g9 (.cells [Value.int .i64 (cCheck x4), Value.int .i64 (((k : Nat) : Int))].toArray 69 (0, 0))), (106, mone g5 (.cells [Value.int .i64 (x4.1), Value.int .i64 (x4.2.1), Value.slice q4_A2 (x4.2.2.length) (q4_c2)].toArray 42 (0, 0))), (102, mone g1 (.cells [Value.int .i64 (0), Value.int .i64 (0)].toArray 69 (0, 0))), (0, wm W)] ?_
      refine VO.k12 0 1 2 6 7 8 9 10 11 12 13 36 ?_
      refine VC.condF rfl ?_
      refine VC.skip ?_
      refine outN ?_
      refine VC.seq ?_
      refine VC.rs ?_
      refine VO.y rfl (.ldA 110 rfl tk69 rfl (cellsAt_one rfl rfl)) ?_
      refine VO.mv ?_
      refine VO.y rfl (.bst (cs := [Value.int .i64 (0), Value.int .i64 (((k : Nat) : Int))]) rfl tst69 tz69 rfl) ?_
      refine VO.y rfl (.stneq (p := (cCheck x4) = 0 ∧ ((k : Nat) : Int) = ((k : Nat) : Int)) rfl rfl (teq69 (cCheck x4) ((k : Nat) : Int)) (teq69 0 ((k : Nat) : Int)) (by simp [ceq, ba_toList])) ?_
      refine VO.k13 0 1 2 6 7 8 9 10 11 12 13 36 41 ?_
      refine VC.cond rfl (fun hc17 => ?_) (fun hc17 => ?_)
      · -- TFT
        refine VC.rs ?_
        refine VO.y rfl (.ldA 110 rfl tk69 rfl (cellsAt_one rfl rfl)) ?_
        refine VO.store (k := 2) (c' := [Value.int .i64 (cCheck x4), Value.int .i64 (((k : Nat) : Int))]) 102 rfl rfl (.inl tk69) rfl rfl rfl rfl rfl ?_
        refine VO.k13 0 1 2 6 7 8 9 10 11 12 13 36 41 ?_
        refine VC.ret ?_
        refine outR ?_
        refine outBR ?_
        refine outR ?_
        refine outR ?_
        refine outBR ?_
        refine outR ?_
        refine ⟨_, _, res_run (rs := [.cell 6 69]) rfl (.agg 102 rfl tk69 rfl ⟨_, _, _, mone_self _ _, Nat.le_of_ble_eq_true rfl, rfl⟩ .nil), fun W_ hI => out_of (l := []) hI [] rfl rfl (mle_refl _) (fun hS_ => ?_)⟩
        dsimp only [packV]
        have he0 : (cFollows d0 d1 d2 : Ty.Den TFault) = (cCheck x4, ((k : Nat) : Int)) := by first | rfl | (first | (rw [hf, List.drop_of_length_le (by omega)]; rfl) | (rw [hf, follows_bad ‹d2[k]? = some _› (by first | assumption | omega)]) | (rw [hf, follows_order ‹d2[k]? = some _› (by assumption) (by omega)]) | (exfalso; omega))
        refine ⟨[Value.int .i64 (cCheck x4), Value.int .i64 (((k : Nat) : Int))], ?_, ?_⟩
        rotate_left
        · rw [he0]; exact (Ow.of (m := mnil) rfl (mk_Fault (m := _) (cCheck x4) ((k : Nat) : Int) (by simp only [inK]; (exact fin1_follows_ok)) (by simp only [inK]; (exact fin1_follows_ok))))
        all_goals (first | rfl | (rfl))
      · -- TFF
        refine VC.skip ?_
        refine outN ?_
        refine VC.regD _ 5 [(0, true), (1, true), (2, true), (3, true), (4, true)] follows (by kernel_rfl) (fun _ h => h.sub [110, 106, 102, 0]) ?_
        refine VD.y rfl rfl (.inl rfl) (.fa rfl tst42 rfl) ?_
        refine VD.y rfl rfl (.inl rfl) (.ld1 106 rfl tk3 rfl (cellsAt_one rfl rfl)) ?_
        refine VD.y rfl rfl (.inl rfl) (.fa rfl tst42 rfl) ?_
        refine VD.y rfl rfl (.inl rfl) (.ld1 106 rfl tk3 rfl (cellsAt_one rfl rfl)) ?_
        refine VD.y rfl rfl (.inl rfl) (.as rfl) ?_
        refine VD.nil rfl ?_ rfl
        refine VO.as ?_
        refine VO.k13 0 1 2 6 7 8 9 10 11 12 13 36 41 ?_
        refine outBN ?_
        refine outN ?_
        refine VC.reg ?_
        refine VO.y rfl (.add (c := ((k + 1 : Nat) : Int)) rfl rfl (by omega) ⟨by exact fin1_follows_ok, by exact fin1_follows_ok⟩) ?_
        refine VO.mv ?_
        refine VO.kp [110, 106, 102, 0] [(110, mone g9 (.cells [Value.int .i64 (cCheck x4), Value.int .i64 (((k : Nat) : Int))].toArray 69 (0, 0))), (106, mone g5 (.cells [Value.int .i64 (x4.1), Value.int .i64 (x4.2.1), Value.slice q4_A2 (x4.2.2.length) (q4_c2)].toArray 42 (0, 0))), (102, mone g1 (.cells [Value.int .i64 (0), Value.int .i64 (0)].toArray 69 (0, 0))), (0, wm W)] ?_
        refine VO.k13 0 1 2 6 7 8 9 10 11 12 13 36 41 ?_
        exact outN ⟨⟨k + 1, x4.1, x4.2.1⟩, ⟨by omega, by first | (exfalso; omega) | (rw [hf, follows_step ‹d2[k]? = some _› (by first | assumption | omega) (by omega) (by omega)]; rfl)⟩, by exact fin1_follows_ok, ⟨⟨rfl, rfl, rfl, rfl, rfl, rfl, rfl, trivial⟩, fun _ h => Inv.sub h [102, 0]⟩⟩
  · -- F
    refine VC.exit ?_
    refine outE ?_
    refine outE ?_
    refine outBB ?_
    refine outN ?_
    refine VC.rs ?_
    refine VO.y rfl (.bst (cs := [Value.int .i64 (0), Value.int .i64 (0)]) rfl tst69 tz69 rfl) ?_
    refine VO.store (k := 2) (c' := [Value.int .i64 (0), Value.int .i64 (0)]) 102 rfl rfl (.inl tk69) rfl rfl rfl rfl rfl ?_
    refine VO.k8 0 1 2 6 10 11 12 13 ?_
    refine VC.ret ?_
    refine ⟨_, _, res_run (rs := [.cell 6 69]) rfl (.agg 102 rfl tk69 rfl ⟨_, _, _, mone_self _ _, Nat.le_of_ble_eq_true rfl, rfl⟩ .nil), fun W_ hI => out_of (l := []) hI [] rfl rfl (mle_refl _) (fun hS_ => ?_)⟩
    dsimp only [packV]
    have he0 : (cFollows d0 d1 d2 : Ty.Den TFault) = (0, 0) := by first | rfl | (first | (rw [hf, List.drop_of_length_le (by omega)]; rfl) | (rw [hf, follows_bad ‹d2[k]? = some _› (by first | assumption | omega)]) | (rw [hf, follows_order ‹d2[k]? = some _› (by assumption) (by omega)]) | (exfalso; omega))
    refine ⟨[Value.int .i64 (0), Value.int .i64 (0)], ?_, ?_⟩
    rotate_left
    · rw [he0]; exact (Ow.of (m := mnil) rfl (mk_Fault (m := _) 0 0 (by simp only [inK]; (exact fin1_follows_ok)) (by simp only [inK]; (exact fin1_follows_ok))))
    all_goals (first | rfl | (rfl))
theorem clone_ok (W : World) {v0 : Value} {d0 : List DOp} (h0 : Rd (.sl TOp) (wm W) [v0] d0) (e0 : d0.length ≤ 3518437208800) : CallR Try.prog 83 [v0] W (mnil) (fun v m' => ∃ (s0 : Value), v = s0 ∧ Ow (.sl TOp) m' [s0] (d0)) := by
  obtain ⟨A0, c0, rfl, l0, k0⟩ := h0.slice
  simp only [maxLen] at k0
  refine CallR.ofA (n := 8) Try.func83 rfl rfl rfl ?_
  refine VC.rs ?_
  refine VO.as ?_
  refine VO.k2 0 2 ?_
  refine VC.seq ?_
  refine VC.rs ?_
  refine VO.mv ?_
  refine VO.y rfl (.snil rfl rfl Try.underlying40) ?_
  refine VO.k3 0 2 4 ?_
  refine VC.cond rfl (fun hc1 => ?_) (fun hc1 => ?_)
  · -- T
    refine VC.rs ?_
    refine VO.as ?_
    refine VO.kp [0] [(0, wm W)] ?_
    refine VO.k3 0 2 4 ?_
    refine VC.ret ?_
    refine outR ?_
    refine ⟨_, _, res_run (rs := [.tmp 2]) rfl (.tmp rfl .nil), fun W_ hI => out_of (l := []) hI [] rfl rfl (mle_refl _) (fun hS_ => ?_)⟩
    dsimp only [packV]
    have he0 : (d0 : Ty.Den (.sl TOp)) = [] := by first | rfl | (exact clone_nil h0 ‹_ = none›)
    refine ⟨Value.slice none (0) (0), ?_, ?_⟩
    rotate_left
    · rw [he0]; exact (Ow.nil _ _)
    all_goals (first | rfl | (simp [*]; done))
  · -- F
    refine VC.skip ?_
    refine outN ?_
    refine VC.rs ?_
    refine VO.bsl (cs := []) 103 rfl rfl tsl40 tz95 rfl rfl (fun g2 => ?_)
    refine VO.mv ?_
    have ho5 : OwnL TOp (mone g2 (.cells [].toArray 95 (0, 0))) mnil (Value.slice (some ⟨g2, 0, none⟩) (0) (0)) [] := OwnL.lit 0 All2c.nil rfl rfl
    obtain ⟨mo4, cs4, hM4, hA4, hC4⟩ := ho5
    obtain ⟨all4, hS4, hR4⟩ := Rd.srcI (P := Try.prog) (h0) Try.underlying40
    refine VO.app 103 rfl rfl rfl tsl40 tz95 rfl rfl hM4 hA4 (hS4 _ 0 rfl) hR4.nice bdm bd (by decide) (fun v4 m4 hN4 => ?_)
    have ho4 : OwnL TOp m4 mnil v4 (d0) := OwnL.more hC4 hN4 (All2c.mono hR4 fun _ _ h => Rd.flat rfl h _)
    obtain ⟨A4, c4, rfl, l4, k4⟩ := ho4.slice
    simp only [maxLen] at k4
    refine VO.as ?_
    refine VO.kp [103, 0] [(103, m4), (0, wm W)] ?_
    refine VO.k3 0 2 4 ?_
    refine VC.ret ?_
    refine ⟨_, _, res_run (rs := [.tmp 2]) rfl (.tmp rfl .nil), fun W_ hI => out_of (l := [m4]) hI [103] rfl rfl (mle_refl _) (fun hS_ => ?_)⟩
    dsimp only [packV]
    have he0 : (d0 : Ty.Den (.sl TOp)) = d0 := by first | rfl | (exact clone_nil h0 ‹_ = none›)
    refine ⟨Value.slice A4 ((d0).length) (c4), ?_, ?_⟩
    rotate_left
    · rw [he0]; exact (Ow.up (OwnL.ow ho4 rfl) (hS_.1 _ (.head _)))
    all_goals (first | rfl | (simp [*]; done))
theorem cCopy_ok (W : World) {v0 : List Value} {d0 : DCommit} (h0 : Rd TCommit (wm W) v0 d0) (e0 : d0.2.2.length ≤ 3518437208800) : CallR Try.prog 58 [.agg v0.toArray] W (mnil) (fun v m' => ∃ (s0 : List Value), v = .agg s0.toArray ∧ Ow TCommit m' s0 (d0)) := by
  obtain ⟨p0_A2, p0_c2, rfl, p0_0, p0_1, p0_2⟩ := open_Commit (x0 := d0.1) (x1 := d0.2.1) (x2 := d0.2.2) h0
  simp only [inK] at p0_0
  simp only [inK] at p0_1
  have p0_r2 := Rd.room p0_2
  refine CallR.ofA (n := 8) Try.func58 rfl rfl rfl ?_
  refine VC.rs ?_
  refine VO.box (cs := [Value.int .i64 (d0.1), Value.int .i64 (d0.2.1), Value.slice p0_A2 (d0.2.2.length) (p0_c2)]) 102 rfl rfl rfl (fun g1 => ?_)
  refine VO.alloc 104 rfl tz42 (fun g3 => ?_)
  refine VO.k3 0 1 2 ?_
  refine VC.rs ?_
  refine VO.y rfl (.fa rfl tst42 rfl) ?_
  refine VO.y rfl (.ld1 102 rfl tk40 rfl (cellsAt_one rfl rfl)) ?_
  refine VO.callN 105 rfl fnOk83 rfl (fun W hW => clone_ok W (Rd.mono p0_2 (hW.at (i := 0) rfl)) bd) (fun v5 m5 hv5 => ?_)
  obtain ⟨s5_0, rfl, f5_0⟩ := hv5
  obtain ⟨A5_0, c5_0, eq5_0, l5_0, k5_0⟩ := f5_0.slice
  subst eq5_0
  simp only [maxLen] at k5_0
  refine VO.y rfl (.fa rfl tst42 rfl) ?_
  refine VO.store (k := 1) (c' := [Value.int .i64 (d0.1), Value.int .i64 (d0.2.1), Value.slice A5_0 (d0.2.2.length) (c5_0)]) 102 rfl rfl (.inr ⟨tk40, rfl⟩) rfl rfl rfl rfl rfl ?_
  refine VO.k3 0 1 2 ?_
  refine VC.rs ?_
  refine VO.y rfl (.ldA 102 rfl tk42 rfl (cellsAt_one rfl rfl)) ?_
  refine VO.store (k := 3) (c' := [Value.int .i64 (d0.1), Value.int .i64 (d0.2.1), Value.slice A5_0 (d0.2.2.length) (c5_0)]) 104 rfl rfl (.inl tk42) rfl rfl rfl rfl rfl ?_
  refine VO.kp [105, 104, 102, 0] [(105, m5), (104, mone g3 (.cells [Value.int .i64 (d0.1), Value.int .i64 (d0.2.1), Value.slice A5_0 (d0.2.2.length) (c5_0)].toArray 42 (0, 0))), (102, mone g1 (.cells [Value.int .i64 (d0.1), Value.int .i64 (d0.2.1), Value.slice A5_0 (d0.2.2.length) (c5_0)].toArray 42 (0, 0))), (0, wm W)] ?_
  refine VO.k3 0 1 2 ?_
  refine VC.ret ?_
  refine ⟨_, _, res_run (rs := [.cell 2 42]) rfl (.agg 104 rfl tk42 rfl ⟨_, _, _, mone_self _ _, Nat.le_of_ble_eq_true rfl, rfl⟩ .nil), fun W_ hI => out_of (l := [m5]) hI [105] rfl rfl (mle_refl _) (fun hS_ => ?_)⟩
  dsimp only [packV]
  have he0 : (d0 : Ty.Den TCommit) = d0 := by first | rfl | (simp [*]; done)
  refine ⟨[Value.int .i64 (d0.1), Value.int .i64 (d0.2.1), Value.slice A5_0 (d0.2.2.length) (c5_0)], ?_, ?_⟩
  rotate_left
  · rw [he0]; exact (show Ow TCommit _ _ d0 from (mkO_Commit d0.1 d0.2.1 d0.2.2 hS_ bdk bdk (OwnL.ow (Ow.ownl f5_0 rfl mnil) rfl)))
  all_goals (first | rfl | (simp [*]; done))
end
section
set_option linter.unusedVariables false
def vX (b : Bytes) : Nat := match vread b with
  | some (x, _) => x
  | none => 0
def vN (b : Bytes) : Nat := match vread b with
  | some (_, n) => n
  | none => 0
def vE (b : Bytes) : Int := match vread b with
  | some _ => 0
  | none => 5
def sX (b : Bytes) (m : Int) : Nat := match vsmall b m with
  | some (x, _) => x
  | none => 0
def sN (b : Bytes) (m : Int) : Nat := match vsmall b m with
  | some (_, n) => n
  | none => 0
def sE (b : Bytes) (m : Int) : Int := match vsmall b m with
  | some _ => 0
  | none => 5
theorem bits_add {x a k : Nat} (h : x < 2 ^ k) : x ||| a * 2 ^ k = x + a * 2 ^ k := by
  rw [Nat.or_comm, Nat.mul_comm, ← Nat.two_pow_add_eq_or_of_lt h, Nat.add_comm]
theorem pow7 {k : Nat} (h : k ≤ 9) : 2 ^ (7 * k) ≤ 9223372036854775808 := by
  have : 2 ^ (7 * k) ≤ 2 ^ 63 := Nat.pow_le_pow_right (by decide) (by omega)
  simpa using this
theorem low64 {x k : Nat} (h : x < 2 ^ (7 * k)) (hk : k ≤ 9) : x < 18446744073709551616 := by have := pow7 hk; omega
theorem pow_next (k : Nat) : 2 ^ (7 * (k + 1)) = 128 * 2 ^ (7 * k) := by rw [Nat.mul_add, Nat.pow_add]; omega
theorem nine (c : Nat) (h : c ≤ 1) : c * 9223372036854775808 + 9223372036854775808 ≤ 18446744073709551616 := by omega
/-- a digit is put on top: below the tenth, or the tenth if it is 0 or 1. -/
theorem top_add {x k c : Nat} (h : x < 2 ^ (7 * k)) (hk : k ≤ 9) (hc : ¬ (k = 9 ∧ c > 1)) : x ||| c % 128 * 2 ^ (7 * k) % 18446744073709551616 = x + c % 128 * 2 ^ (7 * k) ∧ x + c % 128 * 2 ^ (7 * k) < 18446744073709551616 ∧ (k < 9 → x + c % 128 * 2 ^ (7 * k) < 2 ^ (7 * (k + 1))) := by
  have hp := pow7 hk
  have hm : c % 128 * 2 ^ (7 * k) + 2 ^ (7 * k) ≤ 128 * 2 ^ (7 * k) := by
    have : (c % 128 + 1) * 2 ^ (7 * k) ≤ 128 * 2 ^ (7 * k) := Nat.mul_le_mul_right _ (by omega)
    rwa [Nat.add_mul, Nat.one_mul] at this
  have hlt : c % 128 * 2 ^ (7 * k) + 2 ^ (7 * k) ≤ 18446744073709551616 := by
    by_cases h9 : k = 9
    · have hc1 : c ≤ 1 := by omega
      have e : c % 128 = c := by omega
      rw [e, h9]
      exact nine c hc1
    · have : 2 ^ (7 * (k + 1)) ≤ 2 ^ 63 := Nat.pow_le_pow_right (by decide) (by omega)
      rw [pow_next] at this
      have e : (2 : Nat) ^ 63 = 9223372036854775808 := by decide
      omega
  rw [Nat.mod_eq_of_lt (by omega), bits_add h]
  exact ⟨rfl, by omega, fun _ => by rw [pow_next]; omega⟩
section
variable {b : Bytes} {k x : Nat} {c : UInt8}
theorem drop_cons {α : Type} {l : List α} {k : Nat} {x : α} (h : l[k]? = some x) : l.drop k = x :: l.drop (k + 1) := by
  obtain ⟨h1, h2⟩ := List.getElem?_eq_some_iff.1 h
  rw [List.drop_eq_getElem_cons h1, h2]
theorem vgo_end (h : b.length ≤ k) : vgo k x (b.drop k) = none := by rw [List.drop_of_length_le h]; rfl
theorem vgo_big (hc : b[k]? = some c) (h : k = 9 ∧ c.toNat > 1) : vgo k x (b.drop k) = none := by rw [drop_cons hc]; exact if_pos h
theorem vgo_zero (hc : b[k]? = some c) (h1 : ¬ c.toNat ≥ 128) (h : c.toNat = 0 ∧ k > 0) : vgo k x (b.drop k) = none := by
  rw [drop_cons hc]; unfold vgo; rw [if_neg (by omega), if_neg h1, if_pos h]
theorem vgo_more (hx : x < 2 ^ (7 * k)) (hk : k ≤ 9) (hc : b[k]? = some c) (h0 : ¬ (k = 9 ∧ c.toNat > 1)) (h1 : c.toNat ≥ 128) : k < 9 ∧ vgo k x (b.drop k) = vgo (k + 1) (x ||| c.toNat % 128 * 2 ^ (7 * k) % 18446744073709551616) (b.drop (k + 1)) ∧ x ||| c.toNat % 128 * 2 ^ (7 * k) % 18446744073709551616 < 2 ^ (7 * (k + 1)) := by
  obtain ⟨t1, t2, t3⟩ := top_add hx hk h0
  rw [t1]
  refine ⟨by omega, ?_, t3 (by omega)⟩
  rw [drop_cons hc]
  show (if _ then _ else _) = _
  rw [if_neg h0, if_pos h1]
theorem vgo_done (hx : x < 2 ^ (7 * k)) (hk : k ≤ 9) (hc : b[k]? = some c) (h0 : ¬ (k = 9 ∧ c.toNat > 1)) (h1 : ¬ c.toNat ≥ 128) (h2 : ¬ (c.toNat = 0 ∧ k > 0)) : vgo k x (b.drop k) = some (x ||| c.toNat % 128 * 2 ^ (7 * k) % 18446744073709551616, k + 1) ∧ x ||| c.toNat % 128 * 2 ^ (7 * k) % 18446744073709551616 < 18446744073709551616 := by
  obtain ⟨t1, t2, t3⟩ := top_add hx hk h0
  rw [t1]
  refine ⟨?_, t2⟩
  rw [drop_cons hc]
  show (if _ then _ else _) = _
  rw [if_neg h0, if_neg h1, if_neg h2]
end
theorem vgo_bounds : ∀ {b : Bytes} {i x y n : Nat}, x < 2 ^ (7 * i) → i ≤ 9 → vgo i x b = some (y, n) → y < 18446744073709551616 ∧ i < n ∧ n ≤ i + b.length ∧ n ≤ 10
  | [], _, _, _, _, _, _, h => by cases h
  | c :: r, i, x, y, n, hx, hi, h => by
    unfold vgo at h
    split at h
    · cases h
    · rename_i h0
      obtain ⟨t1, t2, t3⟩ := top_add hx hi h0
      split at h
      · have := vgo_bounds (t3 (by omega)) (by omega) h
        simp only [List.length_cons]; omega
      · split at h
        · cases h
        · simp only [Option.some.injEq, Prod.mk.injEq] at h
          simp only [List.length_cons]; omega
theorem vread_bounds {b : Bytes} {x n : Nat} (h : vread b = some (x, n)) : x < 18446744073709551616 ∧ 1 ≤ n ∧ n ≤ b.length ∧ n ≤ 10 := by
  have := vgo_bounds (by decide) (by decide) h
  omega
theorem vX_bounds (b : Bytes) : vX b < 18446744073709551616 ∧ vN b ≤ b.length ∧ vN b ≤ 10 ∧ (vE b = 0 ∨ vE b = 5) := by
  unfold vX vN vE
  cases h : vread b with
  | none => simp
  | some p =>
    obtain ⟨x, n⟩ := p
    have := vread_bounds h
    exact ⟨this.1, this.2.2.1, this.2.2.2, .inl rfl⟩
theorem v_none {b : Bytes} (h : vread b = none) : vX b = 0 ∧ vN b = 0 ∧ vE b = 5 := by unfold vX vN vE; rw [h]; simp
theorem v_some {b : Bytes} {x n : Nat} (h : vread b = some (x, n)) : vX b = x ∧ vN b = n ∧ vE b = 0 := by unfold vX vN vE; rw [h]; simp
theorem s_bounds (b : Bytes) (m : Int) (hm : m ≤ 9223372036854775807) : sX b m < 9223372036854775808 ∧ (0 ≤ m → (sX b m : Int) ≤ m) ∧ sN b m ≤ b.length ∧ sN b m ≤ 10 ∧ (sE b m = 0 ∨ sE b m = 5) := by
  unfold sX sN sE vsmall
  cases h : vread b with
  | none => exact ⟨Nat.succ_pos _, fun h => h, Nat.zero_le _, Nat.zero_le _, .inr rfl⟩
  | some p =>
    obtain ⟨x, n⟩ := p
    have := vread_bounds h
    dsimp only
    by_cases hx : (x : Int) ≤ m
    · rw [if_pos hx]
      exact ⟨by dsimp only; omega, fun _ => hx, this.2.2.1, this.2.2.2, .inl rfl⟩
    · rw [if_neg hx]
      exact ⟨Nat.succ_pos _, fun h => h, Nat.zero_le _, Nat.zero_le _, .inr rfl⟩
theorem s_bad {b : Bytes} {m : Int} (h : ¬ vE b = 0 ∨ m < 0 ∨ m < (vX b : Int)) : sX b m = 0 ∧ sN b m = 0 ∧ sE b m = 5 := by
  have : vsmall b m = none := by
    unfold vE vX at h
    unfold vsmall
    cases hv : vread b with
    | none => rfl
    | some p =>
      obtain ⟨x, n⟩ := p
      rw [hv] at h
      dsimp only at h ⊢
      rw [if_neg (by omega)]
  unfold sX sN sE; rw [this]; simp
theorem s_good {b : Bytes} {m : Int} (h : vE b = 0) (h1 : ¬ m < (vX b : Int)) : sX b m = vX b ∧ sN b m = vN b ∧ sE b m = 0 := by
  unfold vE at h
  unfold vX at h1
  unfold sX sN sE vX vN vsmall
  cases hv : vread b with
  | none => rw [hv] at h; cases h
  | some p =>
    obtain ⟨x, n⟩ := p
    rw [hv] at h1
    dsimp only at h1 ⊢
    rw [if_pos (by omega)]; exact ⟨rfl, rfl, rfl⟩
theorem or64 {x : Nat} (h : x < 18446744073709551616) (y : Nat) : x ||| y % 18446744073709551616 < 18446744073709551616 := by
  have := Nat.or_lt_two_pow (n := 64) (x := x) (y := y % 18446744073709551616) (by simpa using h) (by simpa using Nat.mod_lt y (by decide : 0 < 18446744073709551616))
  simpa using this
end
section
set_option linter.unusedVariables false
abbrev RS := Int × Bool
def rOk (B : Bytes) (s : RS) : Prop := 0 ≤ s.1 ∧ s.1 ≤ B.length
def rNum (B : Bytes) (m : Int) (s : RS) : Int × RS := if s.2 = true then (0, s) else if sE (B.drop s.1.toNat) m = 0 then ((sX (B.drop s.1.toNat) m : Int), (s.1 + (sN (B.drop s.1.toNat) m : Int), false)) else (0, (s.1, true))
def rBytes (B : Bytes) (n : Int) (s : RS) : Bytes × RS := if s.2 = true ∨ (B.length : Int) - s.1 < n then ([], (s.1, true)) else ((B.drop s.1.toNat).take n.toNat, (s.1 + n, false))
def rText (B : Bytes) (m : Int) (s : RS) : Bytes × RS := rBytes B (rNum B m s).1 (rNum B m s).2
section
variable {B : Bytes} {m n : Int} {s : RS}
theorem rNum_bad (h : s.2 = true) : rNum B m s = (0, s) := if_pos h
theorem rNum_none (h : s.2 = false) (h1 : ¬ sE (B.drop s.1.toNat) m = 0) : rNum B m s = (0, (s.1, true)) := by unfold rNum; rw [if_neg (by rw [h]; simp), if_neg h1]
theorem rNum_some (h : s.2 = false) (h1 : sE (B.drop s.1.toNat) m = 0) : rNum B m s = ((sX (B.drop s.1.toNat) m : Int), (s.1 + (sN (B.drop s.1.toNat) m : Int), false)) := by unfold rNum; rw [if_neg (by rw [h]; simp), if_pos h1]
theorem rNum_ok (h : rOk B s) (hm : m ≤ 9223372036854775807) : rOk B (rNum B m s).2 ∧ 0 ≤ (rNum B m s).1 ∧ (rNum B m s).1 < 9223372036854775808 ∧ (0 ≤ m → (rNum B m s).1 ≤ m) ∧ s.1 ≤ (rNum B m s).2.1 := by
  unfold rNum
  obtain ⟨h1, h2⟩ := h
  split
  · exact ⟨⟨h1, h2⟩, by simp, by simp, fun h => h, Int.le_refl _⟩
  · split
    · have := s_bounds (B.drop s.1.toNat) m hm
      have hl : (B.drop s.1.toNat).length = B.length - s.1.toNat := by simp
      refine ⟨⟨by simp only; omega, by simp only; omega⟩, by simp only; omega, by simp only; omega, fun h => this.2.1 h, by simp only; omega⟩
    · exact ⟨⟨h1, h2⟩, by simp, by simp, fun h => h, Int.le_refl _⟩
theorem rBytes_ok (h : rOk B s) (hn : 0 ≤ n) : rOk B (rBytes B n s).2 ∧ ((rBytes B n s).1.length : Int) ≤ n := by
  unfold rBytes
  obtain ⟨h1, h2⟩ := h
  split
  · exact ⟨⟨h1, h2⟩, by simpa using hn⟩
  · exact ⟨⟨by simp only; omega, by simp only; omega⟩, by simp; omega⟩
theorem rBytes_bad (h : s.2 = true ∨ (B.length : Int) - s.1 < n) : rBytes B n s = ([], (s.1, true)) := if_pos h
theorem rBytes_good (h : s.2 = false) (h1 : ¬ (B.length : Int) - s.1 < n) : rBytes B n s = ((B.drop s.1.toNat).take n.toNat, (s.1 + n, false)) := if_neg (by rw [h]; simpa using h1)
theorem rText_ok (h : rOk B s) (hm : 0 ≤ m) (hm2 : m ≤ 9223372036854775807) : rOk B (rText B m s).2 ∧ ((rText B m s).1.length : Int) ≤ m := by
  have h1 := rNum_ok (m := m) h hm2
  have h2 := rBytes_ok (n := (rNum B m s).1) h1.1 h1.2.1
  have := h1.2.2.2.1 hm
  exact ⟨h2.1, by unfold rText; omega⟩
end
theorem cut_mid {B : Bytes} {a n : Int} (h : 0 ≤ a) (hn : 0 ≤ n) : (B.take (a + n).toNat).drop a.toNat = (B.drop a.toNat).take n.toNat := by
  rw [List.drop_take]; congr 1; omega
def rOp (B last : Bytes) (s : RS) : DOp × RS :=
  let a := rNum B 1 s
  let b := rNum B last.length a.2
  let t := rText B 16 b.2
  let key := last.take b.1.toNat ++ t.1
  let bad := t.2.2 || decide (¬ (shared last key : Int) = b.1)
  if a.1 = 1 then ((true, key, (rText B 32 (t.2.1, bad)).1), (rText B 32 (t.2.1, bad)).2) else ((false, key, []), (t.2.1, bad))
def pOps (B : Bytes) : Nat → Bytes → RS → List DOp × RS
  | 0, _, s => ([], s)
  | n + 1, last, s => if s.2 = true then ([], s) else ((rOp B last s).1 :: (pOps B n (rOp B last s).1.2.1 (rOp B last s).2).1, (pOps B n (rOp B last s).1.2.1 (rOp B last s).2).2)
def bRead (B : Bytes) : List DOp × Int × Int :=
  let k := rNum B 8 (0, false)
  let r := pOps B k.1.toNat [] k.2
  if r.2.2 = true ∨ ¬ batchCheck r.1 = 0 then ([], 0, 5) else (r.1, r.2.1, 0)
theorem rOp_ok {B last : Bytes} {s : RS} (h : rOk B s) (hl : last.length ≤ 9223372036854775000) : rOk B (rOp B last s).2 ∧ (rOp B last s).1.2.1.length ≤ last.length + 16 ∧ (rOp B last s).1.2.2.length ≤ 32 := by
  have h1 := rNum_ok (m := 1) h (by omega)
  have h2 := rNum_ok (m := (last.length : Int)) h1.1 (by omega)
  have h3 := rText_ok (m := 16) h2.1 (by omega) (by omega)
  have hk : (last.take (rNum B last.length (rNum B 1 s).2).1.toNat ++ (rText B 16 (rNum B last.length (rNum B 1 s).2).2).1).length ≤ last.length + 16 := by simp; omega
  unfold rOp
  dsimp only
  split
  · have h4 := rText_ok (m := 32) (s := ((rText B 16 (rNum B last.length (rNum B 1 s).2).2).2.1, (rText B 16 (rNum B last.length (rNum B 1 s).2).2).2.2 || decide (¬ (shared last (last.take (rNum B last.length (rNum B 1 s).2).1.toNat ++ (rText B 16 (rNum B last.length (rNum B 1 s).2).2).1) : Int) = (rNum B last.length (rNum B 1 s).2).1))) h3.1 (by omega) (by omega)
    exact ⟨h4.1, hk, by have := h4.2; simp only; omega⟩
  · exact ⟨h3.1, hk, by simp⟩
theorem pOps_zero {B last : Bytes} {s : RS} {k : Int} (h : k ≤ 0 ∨ s.2 = true) : pOps B k.toNat last s = ([], s) := by
  rcases h with h | h
  · rw [show k.toNat = 0 by omega]; rfl
  · cases k.toNat with
    | zero => rfl
    | succ n => exact if_pos h
theorem pOps_step {B last : Bytes} {s : RS} {k : Int} (h : 0 < k) (hs : s.2 = false) : pOps B k.toNat last s = ((rOp B last s).1 :: (pOps B (k - 1).toNat (rOp B last s).1.2.1 (rOp B last s).2).1, (pOps B (k - 1).toNat (rOp B last s).1.2.1 (rOp B last s).2).2) := by
  rw [show k.toNat = (k - 1).toNat + 1 by omega]
  exact if_neg (by rw [hs]; simp)
end
section
set_option linter.unusedVariables false
set_option linter.unusedSimpArgs false
set_option maxRecDepth 4000
theorem fnOk95 : fnOk Try.prog 95 = true := by kernel_rfl
theorem fin0_vRead_ok {P : Prop} (h : P := by first | (have e := v_none (hv.trans (vgo_end (by omega))); rw [e.1, e.2.1, e.2.2] <;> rfl) | (have e := v_none (hv.trans (vgo_big ‹d0[k]? = some _› ⟨by omega, by omega⟩)); rw [e.1, e.2.1, e.2.2] <;> rfl) | (have e := v_none (hv.trans (vgo_zero ‹d0[k]? = some _› (by omega) ⟨by omega, by omega⟩)); rw [e.1, e.2.1, e.2.2] <;> rfl) | (have e := v_some (hv.trans (vgo_done hx h9 ‹d0[k]? = some _› (by omega) (by omega) (by omega)).1); rw [e.1, e.2.1, e.2.2] <;> rfl)) : P := h
theorem vRead_ok (W : World) {v0 : Value} {d0 : List UInt8} (h0 : Rd (.sl .byte) (wm W) [v0] d0) : CallR Try.prog 95 [v0] W (mnil) (fun v m' => v = .tuple #[.int .u64 ((vX d0 : Nat) : Int), .int .i64 ((vN d0 : Nat) : Int), .int .i64 (vE d0)]) := by
  obtain ⟨A0, c0, rfl, l0, k0⟩ := h0.slice
  simp only [maxLen] at k0
  refine CallR.ofA (n := 40) Try.func95 rfl rfl rfl ?_
  refine VC.rs ?_
  refine VO.as ?_
  refine VO.as ?_
  refine VO.as ?_
  refine VO.k4 0 2 3 4 ?_
  refine VC.seq ?_
  refine VC.rs ?_
  refine VO.mv ?_
  refine VO.y rfl (.lenS rfl tsl22) ?_
  refine VO.mv ?_
  refine VO.k7 0 2 3 4 7 8 9 ?_
  refine VC.block ?_
  refine VC.loop (G := Nat × Nat) (fun g => [(2, Value.int .u64 ((((g.2) : Nat) : Int))), (9, Value.int .i64 ((((g.1) : Nat) : Int))), (0, Value.slice A0 (d0.length) (c0)), (7, Value.slice A0 (d0.length) (c0)), (8, Value.int .i64 (((d0.length : Nat) : Int)))]) (fun g => [(0, wm W)]) (fun g => ((g.1) ≤ d0.length) ∧ ((g.1) ≤ 9) ∧ ((g.2) < 2 ^ (7 * (g.1))) ∧ (vread d0 = vgo (g.1) (g.2) (d0.drop (g.1)))) (fun g => d0.length - (g.1)) (0, 0) (⟨by omega, by omega, by decide, by rfl⟩) ⟨⟨rfl, rfl, rfl, rfl, rfl, trivial⟩, fun _ h => h.sub [0]⟩ ?_
  rintro ⟨k, x⟩ ⟨hk, h9, hx, hv⟩
  replace hk : k ≤ d0.length := hk
  replace h9 : k ≤ 9 := h9
  replace hx : x < 2 ^ (7 * k) := hx
  replace hv : vread d0 = vgo k x (d0.drop k) := hv
  show VC _ _ _ _ _ [(2, Value.int .u64 (((x : Nat) : Int))), (9, Value.int .i64 (((k : Nat) : Int))), (0, Value.slice A0 (d0.length) (c0)), (7, Value.slice A0 (d0.length) (c0)), (8, Value.int .i64 (((d0.length : Nat) : Int)))] [(0, wm W)]
  have hx64 := low64 hx h9
  refine VC.rs ?_
  refine VO.y rfl (.lss rfl rfl) ?_
  refine VO.kp [0] [(0, wm W)] ?_
  refine VO.k6 0 2 7 8 9 10 ?_
  refine VC.seq ?_
  refine VC.cond rfl (fun hc1 => ?_) (fun hc1 => ?_)
  · -- T
    refine VC.skip ?_
    refine outN ?_
    refine VC.seq ?_
    refine VC.block ?_
    refine VC.rs ?_
    refine VO.mv ?_
    obtain ⟨x2, hx2⟩ : ∃ z_, (d0)[k]? = some z_ := ⟨_, List.getElem?_eq_getElem bd⟩
    obtain ⟨gg2, oo2, ec2, ea2, hce2, hre2⟩ := h0.elem hx2
    cases ea2
    obtain rfl := (show _ = _ from hre2)
    have xb2 := x2.toNat_lt
    refine VO.y rfl (.ixI k rfl rfl tsl22 rfl bd) ?_
    refine VO.y rfl (.ld1 0 rfl tk5 rfl hce2) ?_
    refine VO.as ?_
    refine VO.as ?_
    refine VO.k8 0 2 5 6 7 8 9 10 ?_
    refine VC.seq ?_
    refine VC.rs ?_
    refine VO.mv ?_
    refine VO.y rfl (.eql rfl rfl) ?_
    refine VO.mv ?_
    refine VO.dec (t := 16) rfl (fun hc3 => ?_) (fun hc3 => ?_)
    · -- TT
      refine VO.gy rfl ⟨_, rfl, rfl⟩ (.mv rfl) ?_
      refine VO.gy rfl ⟨_, rfl, rfl⟩ (.gtr rfl rfl) ?_
      refine VO.y rfl (.pT rfl rfl) ?_
      refine VO.k9 0 2 5 6 7 8 9 10 19 ?_
      refine VC.cond rfl (fun hc4 => ?_) (fun hc4 => ?_)
      · -- TTT
        refine VC.exit ?_
        refine outE ?_
        refine outBE rfl ?_
        refine outE ?_
        refine outE ?_
        refine outBB ?_
        refine outN ?_
        refine VC.rs ?_
        refine VO.as ?_
        refine VO.as ?_
        refine VO.as ?_
        refine VO.kp [0] [(0, wm W)] ?_
        refine VO.k11 0 2 3 4 5 6 7 8 9 10 19 ?_
        refine VC.ret ?_
        refine ⟨_, _, res_run (rs := [.tmp 2, .tmp 3, .tmp 4]) rfl (.tmp rfl (.tmp rfl (.tmp rfl .nil))), fun W_ hI => out_of (l := []) hI [] rfl rfl (mle_refl _) (fun hS_ => ?_)⟩
        dsimp only [packV]
        all_goals (first | rfl | (exact fin0_vRead_ok))
      · -- TTF
        refine VC.skip ?_
        refine outN ?_
        refine VC.rs ?_
        refine VO.mv ?_
        refine VO.mv ?_
        refine VO.y rfl (.bit (.inl rfl) rfl rfl (and127 _ (by omega))) ?_
        refine VO.y rfl (.cvI rfl ⟨_, Try.underlying5⟩ Try.underlying117 (IntWalk.u64_in _ bd)) ?_
        refine VO.mv ?_
        refine VO.y rfl (.mul (c := ((7 * k : Nat) : Int)) rfl rfl (by omega) ⟨bd, bd⟩) ?_
        refine VO.y rfl (.shf (.inl rfl) rfl rfl (shlU _ _ bd)) ?_
        refine VO.y rfl (.bit (.inr (.inl rfl)) rfl rfl (orU _ _ bd (by omega))) ?_
        refine VO.as ?_
        refine VO.kp [0] [(0, wm W)] ?_
        refine VO.k9 0 2 5 6 7 8 9 10 19 ?_
        refine VC.seq ?_
        refine VC.rs ?_
        refine VO.mv ?_
        refine VO.y rfl (.geq rfl rfl) ?_
        refine VO.k10 0 2 5 6 7 8 9 10 19 29 ?_
        refine VC.cond rfl (fun hc5 => ?_) (fun hc5 => ?_)
        · -- TTFT
          refine VC.exit ?_
          refine outE ?_
          refine outBB ?_
          refine outN ?_
          refine VC.reg ?_
          refine VO.y rfl (.add (c := ((k + 1 : Nat) : Int)) rfl rfl (by omega) ⟨bd, bd⟩) ?_
          refine VO.mv ?_
          refine VO.k10 0 2 5 6 7 8 9 10 19 29 ?_
          exact outN ⟨⟨k + 1, x ||| ((x2.toNat % 128) * 2 ^ (7 * k) % 18446744073709551616)⟩, ⟨by omega, by have := (vgo_more hx h9 ‹d0[k]? = some _› (by omega) (by omega)).1; omega, by exact (vgo_more hx h9 ‹d0[k]? = some _› (by omega) (by omega)).2.2, by exact hv.trans (vgo_more hx h9 ‹d0[k]? = some _› (by omega) (by omega)).2.1⟩, bd, ⟨⟨rfl, rfl, rfl, rfl, rfl, trivial⟩, fun _ h => Inv.sub h [0]⟩⟩
        · -- TTFF
          refine VC.skip ?_
          refine outN ?_
          refine VC.seq ?_
          refine VC.rs ?_
          refine VO.mv ?_
          refine VO.y rfl (.eql rfl rfl) ?_
          refine VO.mv ?_
          refine VO.dec (t := 32) rfl (fun hc6 => ?_) (fun hc6 => ?_)
          · -- TTFFT
            refine VO.gy rfl ⟨_, rfl, rfl⟩ (.mv rfl) ?_
            refine VO.gy rfl ⟨_, rfl, rfl⟩ (.gtr rfl rfl) ?_
            refine VO.y rfl (.pT rfl rfl) ?_
            refine VO.k11 0 2 5 6 7 8 9 10 19 29 35 ?_
            refine VC.cond rfl (fun hc7 => ?_) (fun hc7 => ?_)
            · -- TTFFTT
              refine VC.exit ?_
              refine outE ?_
              refine outBE rfl ?_
              refine outE ?_
              refine outE ?_
              refine outBB ?_
              refine outN ?_
              refine VC.rs ?_
              refine VO.as ?_
              refine VO.as ?_
              refine VO.as ?_
              refine VO.kp [0] [(0, wm W)] ?_
              refine VO.k13 0 2 3 4 5 6 7 8 9 10 19 29 35 ?_
              refine VC.ret ?_
              refine ⟨_, _, res_run (rs := [.tmp 2, .tmp 3, .tmp 4]) rfl (.tmp rfl (.tmp rfl (.tmp rfl .nil))), fun W_ hI => out_of (l := []) hI [] rfl rfl (mle_refl _) (fun hS_ => ?_)⟩
              dsimp only [packV]
              all_goals (first | rfl | (exact fin0_vRead_ok))
            · -- TTFFTF
              refine VC.skip ?_
              refine outN ?_
              refine VC.rs ?_
              refine VO.mv ?_
              refine VO.mv ?_
              refine VO.y rfl (.add (c := ((k + 1 : Nat) : Int)) rfl rfl (by omega) ⟨bd, bd⟩) ?_
              refine VO.as ?_
              refine VO.as ?_
              refine VO.as ?_
              refine VO.kp [0] [(0, wm W)] ?_
              refine VO.k13 0 2 3 4 5 6 7 8 9 10 19 29 35 ?_
              refine VC.ret ?_
              refine outBR ?_
              refine outR ?_
              refine outR ?_
              refine outBR ?_
              refine outR ?_
              refine ⟨_, _, res_run (rs := [.tmp 2, .tmp 3, .tmp 4]) rfl (.tmp rfl (.tmp rfl (.tmp rfl .nil))), fun W_ hI => out_of (l := []) hI [] rfl rfl (mle_refl _) (fun hS_ => ?_)⟩
              dsimp only [packV]
              all_goals (first | rfl | (exact fin0_vRead_ok))
          · -- TTFFF
            refine VO.gN ?_
            refine VO.gN ?_
            refine VO.y rfl (.pF rfl rfl) ?_
            refine VO.k11 0 2 5 6 7 8 9 10 19 29 35 ?_
            refine VC.condF rfl ?_
            refine VC.skip ?_
            refine outN ?_
            refine VC.rs ?_
            refine VO.mv ?_
            refine VO.mv ?_
            refine VO.y rfl (.add (c := ((k + 1 : Nat) : Int)) rfl rfl (by omega) ⟨bd, bd⟩) ?_
            refine VO.as ?_
            refine VO.as ?_
            refine VO.as ?_
            refine VO.kp [0] [(0, wm W)] ?_
            refine VO.k13 0 2 3 4 5 6 7 8 9 10 19 29 35 ?_
            refine VC.ret ?_
            refine outBR ?_
            refine outR ?_
            refine outR ?_
            refine outBR ?_
            refine outR ?_
            refine ⟨_, _, res_run (rs := [.tmp 2, .tmp 3, .tmp 4]) rfl (.tmp rfl (.tmp rfl (.tmp rfl .nil))), fun W_ hI => out_of (l := []) hI [] rfl rfl (mle_refl _) (fun hS_ => ?_)⟩
            dsimp only [packV]
            all_goals (first | rfl | (exact fin0_vRead_ok))
    · -- TF
      refine VO.gN ?_
      refine VO.gN ?_
      refine VO.y rfl (.pF rfl rfl) ?_
      refine VO.k9 0 2 5 6 7 8 9 10 19 ?_
      refine VC.condF rfl ?_
      refine VC.skip ?_
      refine outN ?_
      refine VC.rs ?_
      refine VO.mv ?_
      refine VO.mv ?_
      refine VO.y rfl (.bit (.inl rfl) rfl rfl (and127 _ (by omega))) ?_
      refine VO.y rfl (.cvI rfl ⟨_, Try.underlying5⟩ Try.underlying117 (IntWalk.u64_in _ bd)) ?_
      refine VO.mv ?_
      refine VO.y rfl (.mul (c := ((7 * k : Nat) : Int)) rfl rfl (by omega) ⟨bd, bd⟩) ?_
      refine VO.y rfl (.shf (.inl rfl) rfl rfl (shlU _ _ bd)) ?_
      refine VO.y rfl (.bit (.inr (.inl rfl)) rfl rfl (orU _ _ bd (by omega))) ?_
      refine VO.as ?_
      refine VO.kp [0] [(0, wm W)] ?_
      refine VO.k9 0 2 5 6 7 8 9 10 19 ?_
      refine VC.seq ?_
      refine VC.rs ?_
      refine VO.mv ?_
      refine VO.y rfl (.geq rfl rfl) ?_
      refine VO.k10 0 2 5 6 7 8 9 10 19 29 ?_
      refine VC.cond rfl (fun hc8 => ?_) (fun hc8 => ?_)
      · -- TFT
        refine VC.exit ?_
        refine outE ?_
        refine outBB ?_
        refine outN ?_
        refine VC.reg ?_
        refine VO.y rfl (.add (c := ((k + 1 : Nat) : Int)) rfl rfl (by omega) ⟨bd, bd⟩) ?_
        refine VO.mv ?_
        refine VO.k10 0 2 5 6 7 8 9 10 19 29 ?_
        exact outN ⟨⟨k + 1, x ||| ((x2.toNat % 128) * 2 ^ (7 * k) % 18446744073709551616)⟩, ⟨by omega, by have := (vgo_more hx h9 ‹d0[k]? = some _› (by omega) (by omega)).1; omega, by exact (vgo_more hx h9 ‹d0[k]? = some _› (by omega) (by omega)).2.2, by exact hv.trans (vgo_more hx h9 ‹d0[k]? = some _› (by omega) (by omega)).2.1⟩, bd, ⟨⟨rfl, rfl, rfl, rfl, rfl, trivial⟩, fun _ h => Inv.sub h [0]⟩⟩
      · -- TFF
        refine VC.skip ?_
        refine outN ?_
        refine VC.seq ?_
        refine VC.rs ?_
        refine VO.mv ?_
        refine VO.y rfl (.eql rfl rfl) ?_
        refine VO.mv ?_
        refine VO.dec (t := 32) rfl (fun hc9 => ?_) (fun hc9 => ?_)
        · -- TFFT
          refine VO.gy rfl ⟨_, rfl, rfl⟩ (.mv rfl) ?_
          refine VO.gy rfl ⟨_, rfl, rfl⟩ (.gtr rfl rfl) ?_
          refine VO.y rfl (.pT rfl rfl) ?_
          refine VO.k11 0 2 5 6 7 8 9 10 19 29 35 ?_
          refine VC.cond rfl (fun hc10 => ?_) (fun hc10 => ?_)
          · -- TFFTT
            refine VC.exit ?_
            refine outE ?_
            refine outBE rfl ?_
            refine outE ?_
            refine outE ?_
            refine outBB ?_
            refine outN ?_
            refine VC.rs ?_
            refine VO.as ?_
            refine VO.as ?_
            refine VO.as ?_
            refine VO.kp [0] [(0, wm W)] ?_
            refine VO.k13 0 2 3 4 5 6 7 8 9 10 19 29 35 ?_
            refine VC.ret ?_
            refine ⟨_, _, res_run (rs := [.tmp 2, .tmp 3, .tmp 4]) rfl (.tmp rfl (.tmp rfl (.tmp rfl .nil))), fun W_ hI => out_of (l := []) hI [] rfl rfl (mle_refl _) (fun hS_ => ?_)⟩
            dsimp only [packV]
            all_goals (first | rfl | (exact fin0_vRead_ok))
          · -- TFFTF
            refine VC.skip ?_
            refine outN ?_
            refine VC.rs ?_
            refine VO.mv ?_
            refine VO.mv ?_
            refine VO.y rfl (.add (c := ((k + 1 : Nat) : Int)) rfl rfl (by omega) ⟨bd, bd⟩) ?_
            refine VO.as ?_
            refine VO.as ?_
            refine VO.as ?_
            refine VO.kp [0] [(0, wm W)] ?_
            refine VO.k13 0 2 3 4 5 6 7 8 9 10 19 29 35 ?_
            refine VC.ret ?_
            refine outBR ?_
            refine outR ?_
            refine outR ?_
            refine outBR ?_
            refine outR ?_
            refine ⟨_, _, res_run (rs := [.tmp 2, .tmp 3, .tmp 4]) rfl (.tmp rfl (.tmp rfl (.tmp rfl .nil))), fun W_ hI => out_of (l := []) hI [] rfl rfl (mle_refl _) (fun hS_ => ?_)⟩
            dsimp only [packV]
            all_goals (first | rfl | (exact fin0_vRead_ok))
        · -- TFFF
          refine VO.gN ?_
          refine VO.gN ?_
          refine VO.y rfl (.pF rfl rfl) ?_
          refine VO.k11 0 2 5 6 7 8 9 10 19 29 35 ?_
          refine VC.condF rfl ?_
          refine VC.skip ?_
          refine outN ?_
          refine VC.rs ?_
          refine VO.mv ?_
          refine VO.mv ?_
          refine VO.y rfl (.add (c := ((k + 1 : Nat) : Int)) rfl rfl (by omega) ⟨bd, bd⟩) ?_
          refine VO.as ?_
          refine VO.as ?_
          refine VO.as ?_
          refine VO.kp [0] [(0, wm W)] ?_
          refine VO.k13 0 2 3 4 5 6 7 8 9 10 19 29 35 ?_
          refine VC.ret ?_
          refine outBR ?_
          refine outR ?_
          refine outR ?_
          refine outBR ?_
          refine outR ?_
          refine ⟨_, _, res_run (rs := [.tmp 2, .tmp 3, .tmp 4]) rfl (.tmp rfl (.tmp rfl (.tmp rfl .nil))), fun W_ hI => out_of (l := []) hI [] rfl rfl (mle_refl _) (fun hS_ => ?_)⟩
          dsimp only [packV]
          all_goals (first | rfl | (exact fin0_vRead_ok))
  · -- F
    refine VC.exit ?_
    refine outE ?_
    refine outE ?_
    refine outBB ?_
    refine outN ?_
    refine VC.rs ?_
    refine VO.as ?_
    refine VO.as ?_
    refine VO.as ?_
    refine VO.k8 0 2 3 4 7 8 9 10 ?_
    refine VC.ret ?_
    refine ⟨_, _, res_run (rs := [.tmp 2, .tmp 3, .tmp 4]) rfl (.tmp rfl (.tmp rfl (.tmp rfl .nil))), fun W_ hI => out_of (l := []) hI [] rfl rfl (mle_refl _) (fun hS_ => ?_)⟩
    dsimp only [packV]
    all_goals (first | rfl | (exact fin0_vRead_ok))
theorem vSmall_ok (W : World) {v0 : Value} {d0 : List UInt8} (h0 : Rd (.sl .byte) (wm W) [v0] d0) (d1 : Int) (h1 : inK .i64 d1) : CallR Try.prog 86 [v0, .int .i64 d1] W (mnil) (fun v m' => v = .tuple #[.int .i64 ((sX d0 d1 : Nat) : Int), .int .i64 ((sN d0 d1 : Nat) : Int), .int .i64 (sE d0 d1)]) := by
  obtain ⟨A0, c0, rfl, l0, k0⟩ := h0.slice
  simp only [maxLen] at k0
  have h1' := h1; simp only [inK] at h1'
  refine CallR.ofA (n := 29) Try.func86 rfl rfl rfl ?_
  refine VC.rs ?_
  refine VO.as ?_
  refine VO.as ?_
  refine VO.as ?_
  refine VO.k5 0 1 4 5 6 ?_
  refine VC.rs ?_
  refine VO.mv ?_
  refine VO.callN 101 rfl fnOk95 rfl (fun W hW => vRead_ok W (Rd.mono h0 (hW.at (i := 0) rfl))) (fun v1 m1 hv1 => ?_)
  subst hv1
  have hfa2 := vX_bounds d0
  refine VO.mv ?_
  refine VO.y rfl (.ext rfl rfl) ?_
  refine VO.y rfl (.ext rfl rfl) ?_
  refine VO.y rfl (.ext rfl rfl) ?_
  refine VO.as ?_
  refine VO.as ?_
  refine VO.as ?_
  refine VO.k6 0 1 4 5 6 7 ?_
  refine VC.seq ?_
  refine VC.rs ?_
  refine VO.mv ?_
  refine VO.y rfl (.neq rfl rfl) ?_
  refine VO.mv ?_
  refine VO.dec (t := 16) rfl (fun hc3 => ?_) (fun hc3 => ?_)
  · -- T
    refine VO.gN ?_
    refine VO.gN ?_
    refine VO.y rfl (.pT rfl rfl) ?_
    refine VO.mv ?_
    refine VO.gN ?_
    refine VO.gN ?_
    refine VO.gN ?_
    refine VO.gN ?_
    refine VO.y rfl (.pT rfl rfl) ?_
    refine VO.kp [0] [(0, wm W)] ?_
    refine VO.k7 0 1 4 5 6 7 25 ?_
    refine VC.condT rfl ?_
    refine VC.rs ?_
    refine VO.as ?_
    refine VO.as ?_
    refine VO.as ?_
    refine VO.k7 0 1 4 5 6 7 25 ?_
    refine VC.ret ?_
    refine outR ?_
    refine ⟨_, _, res_run (rs := [.tmp 4, .tmp 5, .tmp 6]) rfl (.tmp rfl (.tmp rfl (.tmp rfl .nil))), fun W_ hI => out_of (l := []) hI [] rfl rfl (mle_refl _) (fun hS_ => ?_)⟩
    dsimp only [packV]
    all_goals (first | rfl | (first | (have e := s_bad (b := d0) (m := d1) (by omega); rw [e.1, e.2.1, e.2.2] <;> rfl) | (have e := s_good (b := d0) (m := d1) (by omega) (by omega); rw [e.1, e.2.1, e.2.2] <;> rfl)))
  · -- F
    refine VO.gy rfl ⟨_, rfl, rfl⟩ (.mv rfl) ?_
    refine VO.gy rfl ⟨_, rfl, rfl⟩ (.lss rfl rfl) ?_
    refine VO.y rfl (.pF rfl rfl) ?_
    refine VO.mv ?_
    refine VO.dec (t := 20) rfl (fun hc4 => ?_) (fun hc4 => ?_)
    · -- FT
      refine VO.gN ?_
      refine VO.gN ?_
      refine VO.gN ?_
      refine VO.gN ?_
      refine VO.y rfl (.pT rfl rfl) ?_
      refine VO.kp [0] [(0, wm W)] ?_
      refine VO.k7 0 1 4 5 6 7 25 ?_
      refine VC.condT rfl ?_
      refine VC.rs ?_
      refine VO.as ?_
      refine VO.as ?_
      refine VO.as ?_
      refine VO.k7 0 1 4 5 6 7 25 ?_
      refine VC.ret ?_
      refine outR ?_
      refine ⟨_, _, res_run (rs := [.tmp 4, .tmp 5, .tmp 6]) rfl (.tmp rfl (.tmp rfl (.tmp rfl .nil))), fun W_ hI => out_of (l := []) hI [] rfl rfl (mle_refl _) (fun hS_ => ?_)⟩
      dsimp only [packV]
      all_goals (first | rfl | (first | (have e := s_bad (b := d0) (m := d1) (by omega); rw [e.1, e.2.1, e.2.2] <;> rfl) | (have e := s_good (b := d0) (m := d1) (by omega) (by omega); rw [e.1, e.2.1, e.2.2] <;> rfl)))
    · -- FF
      refine VO.gy rfl ⟨_, rfl, rfl⟩ (.mv rfl) ?_
      refine VO.gy rfl ⟨_, rfl, rfl⟩ (.mv rfl) ?_
      refine VO.gy rfl ⟨_, rfl, rfl⟩ (.cvI (c := ((d1).toNat : Int)) rfl ⟨_, Try.underlying3⟩ Try.underlying117 (by rw [IntWalk.u64_in _ bd]; first | omega | (first | omega | (simp only [List.length_append, List.length_nil, List.length_cons, List.length_take, List.length_drop] at *; omega)))) ?_
      refine VO.gy rfl ⟨_, rfl, rfl⟩ (.gtr rfl rfl) ?_
      refine VO.y rfl (.pF rfl rfl) ?_
      refine VO.kp [0] [(0, wm W)] ?_
      refine VO.k7 0 1 4 5 6 7 25 ?_
      refine VC.cond rfl (fun hc5 => ?_) (fun hc5 => ?_)
      · -- FFT
        refine VC.rs ?_
        refine VO.as ?_
        refine VO.as ?_
        refine VO.as ?_
        refine VO.k7 0 1 4 5 6 7 25 ?_
        refine VC.ret ?_
        refine outR ?_
        refine ⟨_, _, res_run (rs := [.tmp 4, .tmp 5, .tmp 6]) rfl (.tmp rfl (.tmp rfl (.tmp rfl .nil))), fun W_ hI => out_of (l := []) hI [] rfl rfl (mle_refl _) (fun hS_ => ?_)⟩
        dsimp only [packV]
        all_goals (first | rfl | (first | (have e := s_bad (b := d0) (m := d1) (by omega); rw [e.1, e.2.1, e.2.2] <;> rfl) | (have e := s_good (b := d0) (m := d1) (by omega) (by omega); rw [e.1, e.2.1, e.2.2] <;> rfl)))
      · -- FFF
        refine VC.skip ?_
        refine outN ?_
        refine VC.rs ?_
        refine VO.mv ?_
        refine VO.y rfl (.cvI rfl ⟨_, Try.underlying117⟩ Try.underlying3 (IntWalk.i64_in _ bd)) ?_
        refine VO.mv ?_
        refine VO.as ?_
        refine VO.as ?_
        refine VO.as ?_
        refine VO.k7 0 1 4 5 6 7 25 ?_
        refine VC.ret ?_
        refine ⟨_, _, res_run (rs := [.tmp 4, .tmp 5, .tmp 6]) rfl (.tmp rfl (.tmp rfl (.tmp rfl .nil))), fun W_ hI => out_of (l := []) hI [] rfl rfl (mle_refl _) (fun hS_ => ?_)⟩
        dsimp only [packV]
        all_goals (first | rfl | (first | (have e := s_bad (b := d0) (m := d1) (by omega); rw [e.1, e.2.1, e.2.2] <;> rfl) | (have e := s_good (b := d0) (m := d1) (by omega) (by omega); rw [e.1, e.2.1, e.2.2] <;> rfl)))
end
section
set_option linter.unusedVariables false
theorem shared_drop : ∀ {a b : Bytes} {k : Nat}, a.take k = b.take k → k ≤ a.length → k ≤ b.length → shared a b = k + shared (a.drop k) (b.drop k)
  | _, _, 0, _, _, _ => by simp
  | x :: a, y :: b, k + 1, h, ha, hb => by
    simp only [List.take_succ_cons, List.cons.injEq] at h
    have := shared_drop (a := a) (b := b) (k := k) h.2 (by simpa using ha) (by simpa using hb)
    simp only [List.drop_succ_cons]
    show (if x = y then _ else _) = _
    rw [if_pos h.1, this]; omega
theorem shared_nil_left (b : Bytes) : shared [] b = 0 := by cases b <;> rfl
theorem shared_nil_right (a : Bytes) : shared a [] = 0 := by cases a <;> rfl
section
variable {a b : Bytes} {k : Nat} {x y : UInt8}
theorem shared_ne (h : a.take k = b.take k) (hx : a[k]? = some x) (hy : b[k]? = some y) (hn : ¬ (x.toNat : Int) = y.toNat) : shared a b = k := by
  have h1 := (List.getElem?_eq_some_iff.1 hx).1
  have h2 := (List.getElem?_eq_some_iff.1 hy).1
  rw [shared_drop h (by omega) (by omega), drop_cons hx, drop_cons hy]
  show k + (if x = y then _ else _) = _
  rw [if_neg (byte_ne hn)]; rfl
theorem shared_end (h : a.take k = b.take k) (ha : k ≤ a.length) (hb : k ≤ b.length) (he : a.length ≤ k ∨ b.length ≤ k) : shared a b = k := by
  rw [shared_drop h ha hb]
  rcases he with he | he
  · rw [List.drop_of_length_le he, shared_nil_left]; rfl
  · rw [List.drop_of_length_le he, shared_nil_right]; rfl
theorem shared_le : ∀ (a b : Bytes), shared a b ≤ a.length ∧ shared a b ≤ b.length
  | [], b => by rw [shared_nil_left]; simp
  | a, [] => by rw [shared_nil_right]; simp
  | x :: a, y :: b => by
    have := shared_le a b
    unfold shared
    split
    · simp only [List.length_cons]; omega
    · simp
end
def bAppend (b : Bytes) (l : List DOp) : Bytes × Int := if batchCheck l = 0 then (b ++ batchEnc l, 0) else ([], batchCheck l)
theorem bAppend_bad {b : Bytes} {l : List DOp} (h : ¬ batchCheck l = 0) : bAppend b l = ([], batchCheck l) := if_neg h
theorem bAppend_good {b : Bytes} {l : List DOp} (h : batchCheck l = 0) : bAppend b l = (b ++ batchEnc l, 0) := if_pos h
theorem batchCheck_mem {l : List DOp} (h : batchCheck l = 0) {o : DOp} (ho : o ∈ l) : opOk o := by
  unfold batchCheck at h
  split at h
  · cases h
  · split at h
    · cases h
    · split at h
      · rename_i h2; exact h2 o ho
      · cases h
theorem batch_len {l : List DOp} (h : batchCheck l = 0) : 1 ≤ l.length ∧ l.length ≤ 8 := by
  unfold batchCheck at h
  split at h
  · cases h
  · split at h
    · cases h
    · omega
theorem encOp_len {last : Bytes} {o : DOp} (h : opOk o) : (encOp last o).length ≤ 79 := by
  obtain ⟨h1, h2, h3, h4⟩ := h
  have v1 := venc_len (x := shared last o.2.1) (by have := (shared_le last o.2.1).2; omega)
  have v2 := venc_len (x := o.2.1.length - shared last o.2.1) (by omega)
  have v3 := venc_len (x := o.2.2.length) (by omega)
  unfold encOp
  split <;> simp only [List.length_cons, List.length_append, List.length_drop, List.length_nil] <;> omega
theorem enc_step2 {out out' all last : Bytes} {l : List DOp} {k : Nat} {o : DOp} (h : out ++ encOps last (l.drop k) = all) (ho : l[k]? = some o) (ha : out' = out ++ encOp last o) : out' ++ encOps o.2.1 (l.drop (k + 1)) = all := by
  rw [ha, ← h, drop_cons ho, List.append_assoc]; rfl
theorem enc_len2 {out out' last : Bytes} {l : List DOp} {k n : Nat} {o : DOp} (h : out.length ≤ n + 10 + 80 * k) (hc : batchCheck l = 0) (ho : l[k]? = some o) (ha : out' = out ++ encOp last o) : out'.length ≤ n + 10 + 80 * (k + 1) := by
  have := encOp_len (last := last) (batchCheck_mem hc (List.mem_of_getElem? ho))
  rw [ha, List.length_append]; omega
theorem enc_put {last : Bytes} {o : DOp} (h : o.1 = true) : encOp last o = 1 :: (venc (shared last o.2.1) ++ (venc (o.2.1.length - shared last o.2.1) ++ (o.2.1.drop (shared last o.2.1) ++ (venc o.2.2.length ++ o.2.2)))) := by unfold encOp; rw [if_pos h, if_pos h]
theorem enc_del {last : Bytes} {o : DOp} (h : o.1 = false) : encOp last o = 0 :: (venc (shared last o.2.1) ++ (venc (o.2.1.length - shared last o.2.1) ++ (o.2.1.drop (shared last o.2.1)))) := by
  unfold encOp; rw [if_neg (by rw [h]; simp), if_neg (by rw [h]; simp), List.append_nil]
section
variable {B last : Bytes} {s s0 : RS} {k : Int} {l L : List DOp} {e : RS}
theorem ops_step (h : (L, e) = (l ++ (pOps B k.toNat last s).1, (pOps B k.toNat last s).2)) (hk : 0 < k) (hs : s.2 = false) : (L, e) = ((l ++ [(rOp B last s).1]) ++ (pOps B (k - 1).toNat (rOp B last s).1.2.1 (rOp B last s).2).1, (pOps B (k - 1).toNat (rOp B last s).1.2.1 (rOp B last s).2).2) := by
  rw [h, pOps_step hk hs]; simp
theorem ops_end (h : (L, e) = (l ++ (pOps B k.toNat last s).1, (pOps B k.toNat last s).2)) (hk : k ≤ 0 ∨ s.2 = true) : L = l ∧ e = s := by
  rw [pOps_zero hk] at h; simpa using h
end
theorem bRead_bad {B : Bytes} {l : List DOp} {e : RS} (h : (pOps B (rNum B 8 (0, false)).1.toNat [] (rNum B 8 (0, false)).2) = (l, e)) (hb : e.2 = true ∨ ¬ batchCheck l = 0) : bRead B = ([], 0, 5) := by
  unfold bRead; dsimp only; rw [h]; exact if_pos hb
theorem bRead_good {B : Bytes} {l : List DOp} {e : RS} (h : (pOps B (rNum B 8 (0, false)).1.toNat [] (rNum B 8 (0, false)).2) = (l, e)) (hb : e.2 = false) (hc : batchCheck l = 0) : bRead B = (l, e.1, 0) := by
  unfold bRead; dsimp only; rw [h]; exact if_neg (by rw [hb, hc]; simp)
end
section
set_option linter.unusedVariables false
set_option linter.unusedSimpArgs false
set_option maxRecDepth 4000
theorem fnOk101 : fnOk Try.prog 101 = true := by kernel_rfl
theorem fnOk86 : fnOk Try.prog 86 = true := by kernel_rfl
theorem fnOk94 : fnOk Try.prog 94 = true := by kernel_rfl
theorem fnOk96 : fnOk Try.prog 96 = true := by kernel_rfl
theorem tk22 : tk Try.prog 22 = some none := by kernel_rfl
theorem tst132 : tst Try.prog 132 = some [(0, 1), (1, 1), (2, 1)] := by kernel_rfl
theorem bNum_ok (W : World) {g0 : Nat} {E0 : TypeId} {d0 : Dbatchreader} {b0_0 : Value} (hm : mle (mone g0 (.cells [(b0_0 : Value), .int .i64 d0.2.1, .bool d0.2.2].toArray E0 (0, 0))) (wm W)) (h0_0 : Rd (.sl .byte) (mout (wm W) (mone g0 (.cells [(b0_0 : Value), .int .i64 d0.2.1, .bool d0.2.2].toArray E0 (0, 0)))) [b0_0] d0.1) (h0_1 : inK .i64 d0.2.1) (d1 : Int) (h1 : inK .i64 d1) (e0 : rOk d0.1 d0.2) : CallR Try.prog 96 [.pointer (some ⟨g0, 0, none⟩), .int .i64 d1] W (mone g0 (.cells [(b0_0 : Value), .int .i64 d0.2.1, .bool d0.2.2].toArray E0 (0, 0))) (fun v m' => v = .int .i64 ((rNum d0.1 d1 d0.2).1) ∧ m' = mone g0 (.cells [(b0_0 : Value), .int .i64 ((rNum d0.1 d1 d0.2).2.1), .bool ((rNum d0.1 d1 d0.2).2.2)].toArray E0 (0, 0)) ∧ inK .i64 ((rNum d0.1 d1 d0.2).2.1)) := by
  have e0_ := e0; obtain ⟨e0a, e0b⟩ := e0_
  obtain ⟨A0_0, c0_0, rfl, l0_0, k0_0⟩ := h0_0.slice
  simp only [maxLen] at k0_0
  have h0_1' := h0_1; simp only [inK] at h0_1'
  have h1' := h1; simp only [inK] at h1'
  refine CallR.ofB (n := 41) hm Try.func96 rfl rfl rfl ?_
  refine VC.rs ?_
  refine VO.as ?_
  refine VO.k3 0 1 4 ?_
  refine VC.seq ?_
  refine VC.rs ?_
  refine VO.mv ?_
  refine VO.y rfl (.nilp rfl) ?_
  refine VO.y rfl (.fa rfl tst132 rfl) ?_
  refine VO.y rfl (.ld1 1 rfl tk4 rfl (cellsAt_one rfl rfl)) ?_
  refine VO.k4 0 1 4 11 ?_
  refine VC.condB rfl (fun hc1 => ?_) (fun hc1 => ?_)
  · -- T
    refine VC.rs ?_
    refine VO.as ?_
    refine VO.kp [0, 1] [(0, mout (wm W) (mone g0 (.cells [Value.slice A0_0 (d0.1.length) (c0_0), Value.int .i64 (d0.2.1), Value.bool d0.2.2].toArray E0 (0, 0)))), (1, mone g0 (.cells [Value.slice A0_0 (d0.1.length) (c0_0), Value.int .i64 (d0.2.1), Value.bool d0.2.2].toArray E0 (0, 0)))] ?_
    refine VO.k4 0 1 4 11 ?_
    refine VC.ret ?_
    refine outR ?_
    refine ⟨_, _, res_run (rs := [.tmp 4]) rfl (.tmp rfl .nil), fun W_ hI => out_of (l := [mone g0 (.cells [Value.slice A0_0 (d0.1.length) (c0_0), Value.int .i64 (d0.2.1), Value.bool d0.2.2].toArray E0 (0, 0))]) hI [1] rfl rfl (mle_refl _) (fun hS_ => ?_)⟩
    dsimp only [packV]
    have hm0_1 : ((rNum d0.1 d1 d0.2).2.1 : Int) = d0.2.1 := by first | rfl | (first | (rw [rNum_bad ‹_›] <;> rfl) | (rw [rNum_none ‹_› ‹_›] <;> rfl) | (rw [rNum_some ‹_› (Decidable.not_not.1 ‹¬ ¬ _›)] <;> first | rfl | (symm; assumption)))
    have hm0_2 : ((rNum d0.1 d1 d0.2).2.2 : Bool) = d0.2.2 := by first | rfl | (first | (rw [rNum_bad ‹_›] <;> rfl) | (rw [rNum_none ‹_› ‹_›] <;> rfl) | (rw [rNum_some ‹_› (Decidable.not_not.1 ‹¬ ¬ _›)] <;> first | rfl | (symm; assumption)))
    refine ⟨?_, ?_, ?_⟩
    rotate_left
    · rw [hm0_1, hm0_2, muns_one]
    · rw [hm0_1]; exact (show inK .i64 _ by simp only [inK]; (first | omega | (simp only [List.length_append, List.length_nil, List.length_cons, List.length_take, List.length_drop] at *; omega)))
    all_goals (first | rfl | (first | (rw [rNum_bad ‹_›] <;> rfl) | (rw [rNum_none ‹_› ‹_›] <;> rfl) | (rw [rNum_some ‹_› (Decidable.not_not.1 ‹¬ ¬ _›)] <;> rfl)))
  · -- F
    refine VC.skip ?_
    refine outN ?_
    refine VC.seq ?_
    refine VC.regD _ 17 [(0, true), (1, true), (2, true), (3, true), (4, true), (5, true), (6, true), (7, true), (8, true), (9, true), (10, false), (11, true), (12, true), (13, true), (14, true), (15, true), (16, true)] follows (by kernel_rfl) (fun _ h => h.sub [0, 1]) ?_
    refine VD.y rfl rfl (.inl rfl) (.mv rfl) ?_
    refine VD.y rfl rfl (.inl rfl) (.nilp rfl) ?_
    refine VD.y rfl rfl (.inl rfl) (.fa rfl tst132 rfl) ?_
    refine VD.y rfl rfl (.inl rfl) (.ld1 1 rfl tk22 rfl (cellsAt_one rfl rfl)) ?_
    refine VD.y rfl rfl (.inl rfl) (.mv rfl) ?_
    refine VD.y rfl rfl (.inl rfl) (.nilp rfl) ?_
    refine VD.y rfl rfl (.inl rfl) (.fa rfl tst132 rfl) ?_
    refine VD.y rfl rfl (.inl rfl) (.ld1 1 rfl tk3 rfl (cellsAt_one rfl rfl)) ?_
    obtain ⟨A2, hA2, hs2⟩ := h0_0.drop 1 ((d0.2.1).toNat) rfl bd
    refine VD.y rfl rfl (.inl rfl) (.slLI ((d0.2.1).toNat) A2 rfl rfl tsl22 bd hA2 bd) ?_
    refine VD.y rfl rfl (.inl rfl) (.mv rfl) ?_
    refine VD.callN 103 rfl rfl (.inl rfl) fnOk86 rfl (fun _ h => h.sub [0, 1]) (fun W hW => vSmall_ok W (Rd.mono hs2 (hW.at (i := 0) rfl)) d1 bdk) (fun v3 m3 hv3 => ?_)
    subst hv3
    have hfa4 := s_bounds (d0.1.drop ((d0.2.1).toNat)) d1 (by omega)
    refine VD.y rfl rfl (.inl rfl) (.mv rfl) ?_
    refine VD.y rfl rfl (.inl rfl) (.ext rfl rfl) ?_
    refine VD.y rfl rfl (.inl rfl) (.ext rfl rfl) ?_
    refine VD.y rfl rfl (.inl rfl) (.ext rfl rfl) ?_
    refine VD.y rfl rfl (.inl rfl) (.as rfl) ?_
    refine VD.y rfl rfl (.inl rfl) (.as rfl) ?_
    refine VD.nil rfl ?_ rfl
    refine VO.as ?_
    refine VO.kp [0, 1] [(0, mout (wm W) (mone g0 (.cells [Value.slice A0_0 (d0.1.length) (c0_0), Value.int .i64 (d0.2.1), Value.bool d0.2.2].toArray E0 (0, 0)))), (1, mone g0 (.cells [Value.slice A0_0 (d0.1.length) (c0_0), Value.int .i64 (d0.2.1), Value.bool d0.2.2].toArray E0 (0, 0)))] ?_
    refine VO.k7 0 1 4 5 6 7 11 ?_
    refine outN ?_
    refine VC.seq ?_
    refine VC.rs ?_
    refine VO.mv ?_
    refine VO.y rfl (.neq rfl rfl) ?_
    refine VO.k8 0 1 4 5 6 7 11 28 ?_
    refine VC.cond rfl (fun hc5 => ?_) (fun hc5 => ?_)
    · -- FT
      refine VC.rs ?_
      refine VO.mv ?_
      refine VO.y rfl (.nilp rfl) ?_
      refine VO.y rfl (.fa rfl tst132 rfl) ?_
      refine VO.store (k := 1) (c' := [Value.slice A0_0 (d0.1.length) (c0_0), Value.int .i64 (d0.2.1), Value.bool true]) 1 rfl rfl (.inr ⟨tk4, rfl⟩) rfl rfl rfl rfl rfl ?_
      refine VO.k8 0 1 4 5 6 7 11 28 ?_
      refine VC.rs ?_
      refine VO.as ?_
      refine VO.kp [0, 1] [(0, mout (wm W) (mone g0 (.cells [Value.slice A0_0 (d0.1.length) (c0_0), Value.int .i64 (d0.2.1), Value.bool d0.2.2].toArray E0 (0, 0)))), (1, mone g0 (.cells [Value.slice A0_0 (d0.1.length) (c0_0), Value.int .i64 (d0.2.1), Value.bool true].toArray E0 (0, 0)))] ?_
      refine VO.k8 0 1 4 5 6 7 11 28 ?_
      refine VC.ret ?_
      refine outR ?_
      refine ⟨_, _, res_run (rs := [.tmp 4]) rfl (.tmp rfl .nil), fun W_ hI => out_of (l := [mone g0 (.cells [Value.slice A0_0 (d0.1.length) (c0_0), Value.int .i64 (d0.2.1), Value.bool true].toArray E0 (0, 0))]) hI [1] rfl rfl (mle_refl _) (fun hS_ => ?_)⟩
      dsimp only [packV]
      have hm0_1 : ((rNum d0.1 d1 d0.2).2.1 : Int) = d0.2.1 := by first | rfl | (first | (rw [rNum_bad ‹_›] <;> rfl) | (rw [rNum_none ‹_› ‹_›] <;> rfl) | (rw [rNum_some ‹_› (Decidable.not_not.1 ‹¬ ¬ _›)] <;> first | rfl | (symm; assumption)))
      have hm0_2 : ((rNum d0.1 d1 d0.2).2.2 : Bool) = true := by first | rfl | (first | (rw [rNum_bad ‹_›] <;> rfl) | (rw [rNum_none ‹_› ‹_›] <;> rfl) | (rw [rNum_some ‹_› (Decidable.not_not.1 ‹¬ ¬ _›)] <;> first | rfl | (symm; assumption)))
      refine ⟨?_, ?_, ?_⟩
      rotate_left
      · rw [hm0_1, hm0_2, muns_one]
      · rw [hm0_1]; exact (show inK .i64 _ by simp only [inK]; (first | omega | (simp only [List.length_append, List.length_nil, List.length_cons, List.length_take, List.length_drop] at *; omega)))
      all_goals (first | rfl | (first | (rw [rNum_bad ‹_›] <;> rfl) | (rw [rNum_none ‹_› ‹_›] <;> rfl) | (rw [rNum_some ‹_› (Decidable.not_not.1 ‹¬ ¬ _›)] <;> rfl)))
    · -- FF
      refine VC.skip ?_
      refine outN ?_
      refine VC.rs ?_
      refine VO.mv ?_
      refine VO.y rfl (.nilp rfl) ?_
      refine VO.y rfl (.fa rfl tst132 rfl) ?_
      refine VO.y rfl (.ld1 1 rfl tk3 rfl (cellsAt_one rfl rfl)) ?_
      refine VO.mv ?_
      refine VO.y rfl (.add rfl rfl rfl ⟨bd, bd⟩) ?_
      refine VO.y rfl (.nilp rfl) ?_
      refine VO.y rfl (.fa rfl tst132 rfl) ?_
      refine VO.store (k := 1) (c' := [Value.slice A0_0 (d0.1.length) (c0_0), Value.int .i64 (d0.2.1 + ((sN (d0.1.drop ((d0.2.1).toNat)) d1 : Nat) : Int)), Value.bool d0.2.2]) 1 rfl rfl (.inr ⟨tk3, rfl⟩) rfl rfl rfl rfl rfl ?_
      refine VO.k8 0 1 4 5 6 7 11 28 ?_
      refine VC.rs ?_
      refine VO.mv ?_
      refine VO.as ?_
      refine VO.kp [0, 1] [(0, mout (wm W) (mone g0 (.cells [Value.slice A0_0 (d0.1.length) (c0_0), Value.int .i64 (d0.2.1), Value.bool d0.2.2].toArray E0 (0, 0)))), (1, mone g0 (.cells [Value.slice A0_0 (d0.1.length) (c0_0), Value.int .i64 (d0.2.1 + ((sN (d0.1.drop ((d0.2.1).toNat)) d1 : Nat) : Int)), Value.bool d0.2.2].toArray E0 (0, 0)))] ?_
      refine VO.k8 0 1 4 5 6 7 11 28 ?_
      refine VC.ret ?_
      refine ⟨_, _, res_run (rs := [.tmp 4]) rfl (.tmp rfl .nil), fun W_ hI => out_of (l := [mone g0 (.cells [Value.slice A0_0 (d0.1.length) (c0_0), Value.int .i64 (d0.2.1 + ((sN (d0.1.drop ((d0.2.1).toNat)) d1 : Nat) : Int)), Value.bool d0.2.2].toArray E0 (0, 0))]) hI [1] rfl rfl (mle_refl _) (fun hS_ => ?_)⟩
      dsimp only [packV]
      have hm0_1 : ((rNum d0.1 d1 d0.2).2.1 : Int) = d0.2.1 + ((sN (d0.1.drop ((d0.2.1).toNat)) d1 : Nat) : Int) := by first | rfl | (first | (rw [rNum_bad ‹_›] <;> rfl) | (rw [rNum_none ‹_› ‹_›] <;> rfl) | (rw [rNum_some ‹_› (Decidable.not_not.1 ‹¬ ¬ _›)] <;> first | rfl | (symm; assumption)))
      have hm0_2 : ((rNum d0.1 d1 d0.2).2.2 : Bool) = d0.2.2 := by first | rfl | (first | (rw [rNum_bad ‹_›] <;> rfl) | (rw [rNum_none ‹_› ‹_›] <;> rfl) | (rw [rNum_some ‹_› (Decidable.not_not.1 ‹¬ ¬ _›)] <;> first | rfl | (symm; assumption)))
      refine ⟨?_, ?_, ?_⟩
      rotate_left
      · rw [hm0_1, hm0_2, muns_one]
      · rw [hm0_1]; exact (show inK .i64 _ by simp only [inK]; (first | omega | (simp only [List.length_append, List.length_nil, List.length_cons, List.length_take, List.length_drop] at *; omega)))
      all_goals (first | rfl | (first | (rw [rNum_bad ‹_›] <;> rfl) | (rw [rNum_none ‹_› ‹_›] <;> rfl) | (rw [rNum_some ‹_› (Decidable.not_not.1 ‹¬ ¬ _›)] <;> rfl)))
theorem shared_ok (W : World) (d0 : List UInt8) (h0 : d0.length ≤ maxLen) (d1 : List UInt8) (h1 : d1.length ≤ maxLen) : CallR Try.prog 94 [str d0, str d1] W (mnil) (fun v m' => v = .int .i64 ((shared d0 d1 : Nat) : Int)) := by
  have h0' := h0; simp only [maxLen] at h0'
  have h1' := h1; simp only [maxLen] at h1'
  refine CallR.ofA (n := 26) Try.func94 rfl rfl rfl ?_
  refine VC.rs ?_
  refine VO.as ?_
  refine VO.k3 0 1 4 ?_
  refine VC.rs ?_
  refine VO.mv ?_
  refine VO.y rfl (.lenT rfl Try.underlying9) ?_
  refine VO.mv ?_
  refine VO.y rfl (.lenT rfl Try.underlying9) ?_
  refine VO.y rfl (.minM rfl rfl) ?_
  refine VO.as ?_
  refine VO.k4 0 1 4 5 ?_
  refine VC.seq ?_
  refine VC.rs ?_
  refine VO.mv ?_
  refine VO.mv ?_
  refine VO.kp [0] [(0, wm W)] ?_
  refine VO.k6 0 1 4 5 12 13 ?_
  refine VC.block ?_
  refine VC.loop (G := Nat) (fun k => [(13, Value.int .i64 (((k : Nat) : Int))), (0, str (d0)), (1, str (d1)), (5, Value.int .i64 (min ((d0.length : Nat) : Int) ((d1.length : Nat) : Int))), (12, Value.int .i64 (min ((d0.length : Nat) : Int) ((d1.length : Nat) : Int)))]) (fun k => [(0, wm W)]) (fun k => (k ≤ d0.length ∧ k ≤ d1.length) ∧ (d0.take k = d1.take k)) (fun k => d0.length - k) 0 (⟨by omega, by rfl⟩) ⟨⟨rfl, rfl, rfl, rfl, rfl, trivial⟩, fun _ h => h.sub [0]⟩ ?_
  rintro k ⟨hk, ht⟩
  refine VC.rs ?_
  refine VO.y rfl (.lss rfl rfl) ?_
  refine VO.k6 0 1 5 12 13 14 ?_
  refine VC.seq ?_
  refine VC.cond rfl (fun hc1 => ?_) (fun hc1 => ?_)
  · -- T
    refine VC.skip ?_
    refine outN ?_
    refine VC.seq ?_
    refine VC.block ?_
    refine VC.rs ?_
    refine VO.mv ?_
    refine VO.as ?_
    refine VO.k7 0 1 5 6 12 13 14 ?_
    refine VC.seq ?_
    refine VC.regD _ 6 [(0, true), (1, true), (2, true), (3, true), (4, true), (5, true)] follows (by kernel_rfl) (fun _ h => h.sub [0]) ?_
    refine VD.y rfl rfl (.inl rfl) (.mv rfl) ?_
    refine VD.y rfl rfl (.inl rfl) (.mv rfl) ?_
    obtain ⟨b2, hb2⟩ : ∃ z_, (d0)[k]? = some z_ := ⟨_, List.getElem?_eq_getElem bd⟩
    refine VD.y rfl rfl (.inl rfl) (.ixTI k rfl rfl Try.underlying9 rfl hb2) ?_
    refine VD.y rfl rfl (.inl rfl) (.mv rfl) ?_
    refine VD.y rfl rfl (.inl rfl) (.mv rfl) ?_
    obtain ⟨b3, hb3⟩ : ∃ z_, (d1)[k]? = some z_ := ⟨_, List.getElem?_eq_getElem bd⟩
    refine VD.y rfl rfl (.inl rfl) (.ixTI k rfl rfl Try.underlying9 rfl hb3) ?_
    refine VD.nil rfl ?_ rfl
    refine VO.y rfl (.neq rfl rfl) ?_
    refine VO.kp [0] [(0, wm W)] ?_
    refine VO.k8 0 1 5 6 12 13 14 22 ?_
    refine outN ?_
    refine VC.cond rfl (fun hc4 => ?_) (fun hc4 => ?_)
    · -- TT
      refine VC.rs ?_
      refine VO.mv ?_
      refine VO.as ?_
      refine VO.k9 0 1 4 5 6 12 13 14 22 ?_
      refine VC.ret ?_
      refine outBR ?_
      refine outR ?_
      refine outR ?_
      refine outBR ?_
      refine outR ?_
      refine ⟨_, _, res_run (rs := [.tmp 4]) rfl (.tmp rfl .nil), fun W_ hI => out_of (l := []) hI [] rfl rfl (mle_refl _) (fun hS_ => ?_)⟩
      dsimp only [packV]
      all_goals (first | rfl | (congr 1; first | exact congrArg Int.ofNat (shared_ne ht ‹d0[k]? = some _› ‹d1[k]? = some _› ‹_›) | exact congrArg Int.ofNat (shared_end ht hk.1 hk.2 (by omega)) | (have := shared_end ht hk.1 hk.2 (by omega); omega) | (have := shared_ne ht ‹d0[k]? = some _› ‹d1[k]? = some _› ‹_›; omega)))
    · -- TF
      refine VC.skip ?_
      refine outBN ?_
      refine outN ?_
      refine VC.reg ?_
      refine VO.y rfl (.add (c := ((k + 1 : Nat) : Int)) rfl rfl (by omega) ⟨bd, bd⟩) ?_
      refine VO.mv ?_
      refine VO.k8 0 1 5 6 12 13 14 22 ?_
      exact outN ⟨k + 1, ⟨by omega, by exact take_next ht ‹d0[k]? = some _› ‹d1[k]? = some _› (byte_eq (by omega))⟩, bd, ⟨⟨rfl, rfl, rfl, rfl, rfl, trivial⟩, fun _ h => Inv.sub h [0]⟩⟩
  · -- F
    refine VC.exit ?_
    refine outE ?_
    refine outE ?_
    refine outBB ?_
    refine outN ?_
    refine VC.rs ?_
    refine VO.mv ?_
    refine VO.as ?_
    refine VO.k7 0 1 4 5 12 13 14 ?_
    refine VC.ret ?_
    refine ⟨_, _, res_run (rs := [.tmp 4]) rfl (.tmp rfl .nil), fun W_ hI => out_of (l := []) hI [] rfl rfl (mle_refl _) (fun hS_ => ?_)⟩
    dsimp only [packV]
    all_goals (first | rfl | (congr 1; first | exact congrArg Int.ofNat (shared_ne ht ‹d0[k]? = some _› ‹d1[k]? = some _› ‹_›) | exact congrArg Int.ofNat (shared_end ht hk.1 hk.2 (by omega)) | (have := shared_end ht hk.1 hk.2 (by omega); omega) | (have := shared_ne ht ‹d0[k]? = some _› ‹d1[k]? = some _› ‹_›; omega)))
theorem bText_ok (W : World) {g0 : Nat} {E0 : TypeId} {d0 : Dbatchreader} {b0_0 : Value} (hm : mle (mone g0 (.cells [(b0_0 : Value), .int .i64 d0.2.1, .bool d0.2.2].toArray E0 (0, 0))) (wm W)) (h0_0 : Rd (.sl .byte) (mout (wm W) (mone g0 (.cells [(b0_0 : Value), .int .i64 d0.2.1, .bool d0.2.2].toArray E0 (0, 0)))) [b0_0] d0.1) (h0_1 : inK .i64 d0.2.1) (d1 : Int) (h1 : inK .i64 d1) (e0 : rOk d0.1 d0.2) (e1 : 0 ≤ d1) : CallR Try.prog 101 [.pointer (some ⟨g0, 0, none⟩), .int .i64 d1] W (mone g0 (.cells [(b0_0 : Value), .int .i64 d0.2.1, .bool d0.2.2].toArray E0 (0, 0))) (fun v m' => v = str ((rText d0.1 d1 d0.2).1) ∧ m' = mone g0 (.cells [(b0_0 : Value), .int .i64 ((rText d0.1 d1 d0.2).2.1), .bool ((rText d0.1 d1 d0.2).2.2)].toArray E0 (0, 0)) ∧ inK .i64 ((rText d0.1 d1 d0.2).2.1)) := by
  have e0_ := e0; obtain ⟨e0a, e0b⟩ := e0_
  obtain ⟨A0_0, c0_0, rfl, l0_0, k0_0⟩ := h0_0.slice
  simp only [maxLen] at k0_0
  have h0_1' := h0_1; simp only [inK] at h0_1'
  have h1' := h1; simp only [inK] at h1'
  refine CallR.ofB (n := 54) hm Try.func101 rfl rfl rfl ?_
  refine VC.rs ?_
  refine VO.as ?_
  refine VO.k3 0 1 4 ?_
  refine VC.rs ?_
  refine VO.mv ?_
  refine VO.mv ?_
  refine VO.call 1 rfl fnOk96 rfl rfl (fun W hW => bNum_ok W (d0 := d0) (hW.at (i := 1) rfl) (Rd.mono h0_0 (hW.out (i := 1) (j := 0) rfl rfl)) bdk d1 bdk (by first | assumption | exact ⟨by omega, by omega⟩ | exact ⟨by (simp; done), by (simp; done)⟩)) (fun v1 m1 hv1 => ?_)
  obtain ⟨rfl, rfl, w1_0_1⟩ := hv1
  have hfa2 := (rNum_ok (B := d0.1) (m := d1) (s := d0.2) (by first | assumption | exact ⟨by omega, by omega⟩ | exact ⟨by (simp; done), by (simp; done)⟩) (by omega)).1
  have hfa3 := (rNum_ok (B := d0.1) (m := d1) (s := d0.2) (by first | assumption | exact ⟨by omega, by omega⟩ | exact ⟨by (simp; done), by (simp; done)⟩) (by omega)).1.1
  have hfa4 := (rNum_ok (B := d0.1) (m := d1) (s := d0.2) (by first | assumption | exact ⟨by omega, by omega⟩ | exact ⟨by (simp; done), by (simp; done)⟩) (by omega)).1.2
  have hfa5 := (rNum_ok (B := d0.1) (m := d1) (s := d0.2) (by first | assumption | exact ⟨by omega, by omega⟩ | exact ⟨by (simp; done), by (simp; done)⟩) (by omega)).2
  simp only [inK] at w1_0_1
  refine VO.as ?_
  refine VO.k4 0 1 4 5 ?_
  refine VC.seq ?_
  refine VC.seq ?_
  refine VC.regD _ 16 [(0, true), (1, true), (2, true), (3, true), (4, true), (5, true), (6, true), (7, true), (8, true), (9, true), (10, true), (11, true), (12, true), (13, true), (14, true), (15, true)] follows (by kernel_rfl) (fun _ h => h.sub [1, 0]) ?_
  refine VD.y rfl rfl (.inl rfl) (.mv rfl) ?_
  refine VD.y rfl rfl (.inl rfl) (.nilp rfl) ?_
  refine VD.y rfl rfl (.inl rfl) (.fa rfl tst132 rfl) ?_
  refine VD.y rfl rfl (.inl rfl) (.ld1 1 rfl tk4 rfl (cellsAt_one rfl rfl)) ?_
  refine VD.y rfl rfl (.inl rfl) (.mv rfl) ?_
  refine VD.decB (s := 13) rfl (fun hc6 => ?_) (fun hc6 => ?_)
  · -- T
    refine VD.gn rfl rfl (.inl ⟨_, rfl, rfl⟩) ?_
    refine VD.gn rfl rfl (.inl ⟨_, rfl, rfl⟩) ?_
    refine VD.gn rfl rfl (.inl ⟨_, rfl, rfl⟩) ?_
    refine VD.gn rfl rfl (.inl ⟨_, rfl, rfl⟩) ?_
    refine VD.gn rfl rfl (.inl ⟨_, rfl, rfl⟩) ?_
    refine VD.gn rfl rfl (.inl ⟨_, rfl, rfl⟩) ?_
    refine VD.gn rfl rfl (.inl ⟨_, rfl, rfl⟩) ?_
    refine VD.gn rfl rfl (.inl ⟨_, rfl, rfl⟩) ?_
    refine VD.gn rfl rfl (.inl ⟨_, rfl, rfl⟩) ?_
    refine VD.gn rfl rfl (.inl ⟨_, rfl, rfl⟩) ?_
    refine VD.gn rfl rfl (.inl ⟨_, rfl, rfl⟩) ?_
    refine VD.nil rfl ?_ rfl
    refine VO.gN ?_
    refine VO.y rfl (.pT rfl rfl) ?_
    refine VO.kp [1, 0] [(1, mone g0 (.cells [Value.slice A0_0 (d0.1.length) (c0_0), Value.int .i64 ((rNum d0.1 d1 d0.2).2.1), Value.bool ((rNum d0.1 d1 d0.2).2.2)].toArray E0 (0, 0))), (0, mout (wm W) (mone g0 (.cells [Value.slice A0_0 (d0.1.length) (c0_0), Value.int .i64 (d0.2.1), Value.bool d0.2.2].toArray E0 (0, 0))))] ?_
    refine VO.k5 0 1 4 5 26 ?_
    refine outN ?_
    refine VC.condT rfl ?_
    refine VC.rs ?_
    refine VO.mv ?_
    refine VO.y rfl (.nilp rfl) ?_
    refine VO.y rfl (.fa rfl tst132 rfl) ?_
    refine VO.store (k := 1) (c' := [Value.slice A0_0 (d0.1.length) (c0_0), Value.int .i64 ((rNum d0.1 d1 d0.2).2.1), Value.bool true]) 1 rfl rfl (.inr ⟨tk4, rfl⟩) rfl rfl rfl rfl rfl ?_
    refine VO.k5 0 1 4 5 26 ?_
    refine VC.rs ?_
    refine VO.as ?_
    refine VO.k5 0 1 4 5 26 ?_
    refine VC.ret ?_
    refine outR ?_
    refine ⟨_, _, res_run (rs := [.tmp 4]) rfl (.tmp rfl .nil), fun W_ hI => out_of (l := [mone g0 (.cells [Value.slice A0_0 (d0.1.length) (c0_0), Value.int .i64 ((rNum d0.1 d1 d0.2).2.1), Value.bool true].toArray E0 (0, 0))]) hI [1] rfl rfl (mle_refl _) (fun hS_ => ?_)⟩
    dsimp only [packV]
    have hm0_1 : ((rText d0.1 d1 d0.2).2.1 : Int) = (rNum d0.1 d1 d0.2).2.1 := by first | rfl | (unfold rText; first | (rw [rBytes_bad (by first | exact .inl ‹_› | exact .inr ‹_›)] <;> first | rfl | assumption) | (rw [rBytes_good ‹_› ‹_›] <;> first | rfl | assumption | (symm; assumption)))
    have hm0_2 : ((rText d0.1 d1 d0.2).2.2 : Bool) = true := by first | rfl | (unfold rText; first | (rw [rBytes_bad (by first | exact .inl ‹_› | exact .inr ‹_›)] <;> first | rfl | assumption) | (rw [rBytes_good ‹_› ‹_›] <;> first | rfl | assumption | (symm; assumption)))
    refine ⟨?_, ?_, ?_⟩
    rotate_left
    · rw [hm0_1, hm0_2, muns_one]
    · rw [hm0_1]; exact (show inK .i64 _ by simp only [inK]; (first | omega | (simp only [List.length_append, List.length_nil, List.length_cons, List.length_take, List.length_drop] at *; omega)))
    all_goals (first | rfl | (unfold rText; first | (rw [rBytes_bad (by first | exact .inl ‹_› | exact .inr ‹_›)] <;> rfl) | (rw [rBytes_good ‹_› ‹_›]; dsimp only; congr 2; first | rw [cut_mid (by omega) (by omega)] | (rw [← cut_mid (by omega) (by omega)]; congr 1; omega) | (rw [List.drop_take]; congr 1; omega))))
  · -- F
    refine VD.y rfl rfl (.inr ⟨_, _, rfl, _, rfl, rfl⟩) (.mv rfl) ?_
    refine VD.y rfl rfl (.inr ⟨_, _, rfl, _, rfl, rfl⟩) (.nilp rfl) ?_
    refine VD.y rfl rfl (.inr ⟨_, _, rfl, _, rfl, rfl⟩) (.fa rfl tst132 rfl) ?_
    refine VD.y rfl rfl (.inr ⟨_, _, rfl, _, rfl, rfl⟩) (.ld1 1 rfl tk22 rfl (cellsAt_one rfl rfl)) ?_
    refine VD.y rfl rfl (.inr ⟨_, _, rfl, _, rfl, rfl⟩) (.lenS rfl tsl22) ?_
    refine VD.y rfl rfl (.inr ⟨_, _, rfl, _, rfl, rfl⟩) (.mv rfl) ?_
    refine VD.y rfl rfl (.inr ⟨_, _, rfl, _, rfl, rfl⟩) (.nilp rfl) ?_
    refine VD.y rfl rfl (.inr ⟨_, _, rfl, _, rfl, rfl⟩) (.fa rfl tst132 rfl) ?_
    refine VD.y rfl rfl (.inr ⟨_, _, rfl, _, rfl, rfl⟩) (.ld1 1 rfl tk3 rfl (cellsAt_one rfl rfl)) ?_
    refine VD.y rfl rfl (.inr ⟨_, _, rfl, _, rfl, rfl⟩) (.sub rfl rfl rfl ⟨bd, bd⟩) ?_
    refine VD.y rfl rfl (.inr ⟨_, _, rfl, _, rfl, rfl⟩) (.mv rfl) ?_
    refine VD.nil rfl ?_ rfl
    refine VO.gy rfl ⟨_, rfl, rfl⟩ (.lss rfl rfl) ?_
    refine VO.y rfl (.pF rfl rfl) ?_
    refine VO.kp [1, 0] [(1, mone g0 (.cells [Value.slice A0_0 (d0.1.length) (c0_0), Value.int .i64 ((rNum d0.1 d1 d0.2).2.1), Value.bool ((rNum d0.1 d1 d0.2).2.2)].toArray E0 (0, 0))), (0, mout (wm W) (mone g0 (.cells [Value.slice A0_0 (d0.1.length) (c0_0), Value.int .i64 (d0.2.1), Value.bool d0.2.2].toArray E0 (0, 0))))] ?_
    refine VO.k5 0 1 4 5 26 ?_
    refine outN ?_
    refine VC.cond rfl (fun hc7 => ?_) (fun hc7 => ?_)
    · -- FT
      refine VC.rs ?_
      refine VO.mv ?_
      refine VO.y rfl (.nilp rfl) ?_
      refine VO.y rfl (.fa rfl tst132 rfl) ?_
      refine VO.store (k := 1) (c' := [Value.slice A0_0 (d0.1.length) (c0_0), Value.int .i64 ((rNum d0.1 d1 d0.2).2.1), Value.bool true]) 1 rfl rfl (.inr ⟨tk4, rfl⟩) rfl rfl rfl rfl rfl ?_
      refine VO.k5 0 1 4 5 26 ?_
      refine VC.rs ?_
      refine VO.as ?_
      refine VO.k5 0 1 4 5 26 ?_
      refine VC.ret ?_
      refine outR ?_
      refine ⟨_, _, res_run (rs := [.tmp 4]) rfl (.tmp rfl .nil), fun W_ hI => out_of (l := [mone g0 (.cells [Value.slice A0_0 (d0.1.length) (c0_0), Value.int .i64 ((rNum d0.1 d1 d0.2).2.1), Value.bool true].toArray E0 (0, 0))]) hI [1] rfl rfl (mle_refl _) (fun hS_ => ?_)⟩
      dsimp only [packV]
      have hm0_1 : ((rText d0.1 d1 d0.2).2.1 : Int) = (rNum d0.1 d1 d0.2).2.1 := by first | rfl | (unfold rText; first | (rw [rBytes_bad (by first | exact .inl ‹_› | exact .inr ‹_›)] <;> first | rfl | assumption) | (rw [rBytes_good ‹_› ‹_›] <;> first | rfl | assumption | (symm; assumption)))
      have hm0_2 : ((rText d0.1 d1 d0.2).2.2 : Bool) = true := by first | rfl | (unfold rText; first | (rw [rBytes_bad (by first | exact .inl ‹_› | exact .inr ‹_›)] <;> first | rfl | assumption) | (rw [rBytes_good ‹_› ‹_›] <;> first | rfl | assumption | (symm; assumption)))
      refine ⟨?_, ?_, ?_⟩
      rotate_left
      · rw [hm0_1, hm0_2, muns_one]
      · rw [hm0_1]; exact (show inK .i64 _ by simp only [inK]; (first | omega | (simp only [List.length_append, List.length_nil, List.length_cons, List.length_take, List.length_drop] at *; omega)))
      all_goals (first | rfl | (unfold rText; first | (rw [rBytes_bad (by first | exact .inl ‹_› | exact .inr ‹_›)] <;> rfl) | (rw [rBytes_good ‹_› ‹_›]; dsimp only; congr 2; first | rw [cut_mid (by omega) (by omega)] | (rw [← cut_mid (by omega) (by omega)]; congr 1; omega) | (rw [List.drop_take]; congr 1; omega))))
    · -- FF
      refine VC.skip ?_
      refine outN ?_
      refine VC.rs ?_
      refine VO.mv ?_
      refine VO.y rfl (.nilp rfl) ?_
      refine VO.y rfl (.fa rfl tst132 rfl) ?_
      refine VO.y rfl (.ld1 1 rfl tk3 rfl (cellsAt_one rfl rfl)) ?_
      refine VO.mv ?_
      refine VO.y rfl (.add rfl rfl rfl ⟨bd, bd⟩) ?_
      refine VO.y rfl (.nilp rfl) ?_
      refine VO.y rfl (.fa rfl tst132 rfl) ?_
      refine VO.store (k := 1) (c' := [Value.slice A0_0 (d0.1.length) (c0_0), Value.int .i64 (((rNum d0.1 d1 d0.2).2.1) + ((rNum d0.1 d1 d0.2).1)), Value.bool ((rNum d0.1 d1 d0.2).2.2)]) 1 rfl rfl (.inr ⟨tk3, rfl⟩) rfl rfl rfl rfl rfl ?_
      refine VO.k5 0 1 4 5 26 ?_
      refine VC.seq ?_
      refine VC.regD _ 14 [(0, true), (1, true), (2, true), (3, true), (4, true), (5, true), (6, true), (7, true), (8, true), (9, true), (10, true), (11, true), (12, true), (13, true)] follows (by kernel_rfl) (fun _ h => h.sub [1, 0]) ?_
      refine VD.y rfl rfl (.inl rfl) (.mv rfl) ?_
      refine VD.y rfl rfl (.inl rfl) (.nilp rfl) ?_
      refine VD.y rfl rfl (.inl rfl) (.fa rfl tst132 rfl) ?_
      refine VD.y rfl rfl (.inl rfl) (.ld1 1 rfl tk22 rfl (cellsAt_one rfl rfl)) ?_
      refine VD.y rfl rfl (.inl rfl) (.mv rfl) ?_
      refine VD.y rfl rfl (.inl rfl) (.nilp rfl) ?_
      refine VD.y rfl rfl (.inl rfl) (.fa rfl tst132 rfl) ?_
      refine VD.y rfl rfl (.inl rfl) (.ld1 1 rfl tk3 rfl (cellsAt_one rfl rfl)) ?_
      refine VD.y rfl rfl (.inl rfl) (.mv rfl) ?_
      refine VD.y rfl rfl (.inl rfl) (.sub rfl rfl rfl ⟨bd, bd⟩) ?_
      refine VD.y rfl rfl (.inl rfl) (.mv rfl) ?_
      refine VD.y rfl rfl (.inl rfl) (.nilp rfl) ?_
      refine VD.y rfl rfl (.inl rfl) (.fa rfl tst132 rfl) ?_
      refine VD.y rfl rfl (.inl rfl) (.ld1 1 rfl tk3 rfl (cellsAt_one rfl rfl)) ?_
      refine VD.nil rfl ?_ rfl
      obtain ⟨A8, hA8, hs8⟩ := h0_0.sub' 1 (((((rNum d0.1 d1 d0.2).2.1) + ((rNum d0.1 d1 d0.2).1)) - ((rNum d0.1 d1 d0.2).1)).toNat) ((((rNum d0.1 d1 d0.2).2.1) + ((rNum d0.1 d1 d0.2).1)).toNat) rfl bd bd
      refine VO.y rfl (.slI (((((rNum d0.1 d1 d0.2).2.1) + ((rNum d0.1 d1 d0.2).1)) - ((rNum d0.1 d1 d0.2).1)).toNat) ((((rNum d0.1 d1 d0.2).2.1) + ((rNum d0.1 d1 d0.2).1)).toNat) A8 rfl rfl rfl tsl22 bd bd hA8 bd bd) ?_
      refine VO.y rfl (.b2s 0 rfl Try.underlying22 Try.underlying9 Try.underlying5 rfl hs8) ?_
      refine VO.as ?_
      refine VO.k5 0 1 4 5 26 ?_
      refine outN ?_
      refine VC.ret ?_
      refine ⟨_, _, res_run (rs := [.tmp 4]) rfl (.tmp rfl .nil), fun W_ hI => out_of (l := [mone g0 (.cells [Value.slice A0_0 (d0.1.length) (c0_0), Value.int .i64 (((rNum d0.1 d1 d0.2).2.1) + ((rNum d0.1 d1 d0.2).1)), Value.bool ((rNum d0.1 d1 d0.2).2.2)].toArray E0 (0, 0))]) hI [1] rfl rfl (mle_refl _) (fun hS_ => ?_)⟩
      dsimp only [packV]
      have hm0_1 : ((rText d0.1 d1 d0.2).2.1 : Int) = ((rNum d0.1 d1 d0.2).2.1) + ((rNum d0.1 d1 d0.2).1) := by first | rfl | (unfold rText; first | (rw [rBytes_bad (by first | exact .inl ‹_› | exact .inr ‹_›)] <;> first | rfl | assumption) | (rw [rBytes_good ‹_› ‹_›] <;> first | rfl | assumption | (symm; assumption)))
      have hm0_2 : ((rText d0.1 d1 d0.2).2.2 : Bool) = (rNum d0.1 d1 d0.2).2.2 := by first | rfl | (unfold rText; first | (rw [rBytes_bad (by first | exact .inl ‹_› | exact .inr ‹_›)] <;> first | rfl | assumption) | (rw [rBytes_good ‹_› ‹_›] <;> first | rfl | assumption | (symm; assumption)))
      refine ⟨?_, ?_, ?_⟩
      rotate_left
      · rw [hm0_1, hm0_2, muns_one]
      · rw [hm0_1]; exact (show inK .i64 _ by simp only [inK]; (first | omega | (simp only [List.length_append, List.length_nil, List.length_cons, List.length_take, List.length_drop] at *; omega)))
      all_goals (first | rfl | (unfold rText; first | (rw [rBytes_bad (by first | exact .inl ‹_› | exact .inr ‹_›)] <;> rfl) | (rw [rBytes_good ‹_› ‹_›]; dsimp only; congr 2; first | rw [cut_mid (by omega) (by omega)] | (rw [← cut_mid (by omega) (by omega)]; congr 1; omega) | (rw [List.drop_take]; congr 1; omega))))
theorem bOp_ok (W : World) {g0 : Nat} {E0 : TypeId} {d0 : Dbatchreader} {b0_0 : Value} (hm : mle (mone g0 (.cells [(b0_0 : Value), .int .i64 d0.2.1, .bool d0.2.2].toArray E0 (0, 0))) (wm W)) (h0_0 : Rd (.sl .byte) (mout (wm W) (mone g0 (.cells [(b0_0 : Value), .int .i64 d0.2.1, .bool d0.2.2].toArray E0 (0, 0)))) [b0_0] d0.1) (h0_1 : inK .i64 d0.2.1) (d1 : List UInt8) (h1 : d1.length ≤ maxLen) (e0 : rOk d0.1 d0.2) (e1 : d1.length ≤ 1000000) : CallR Try.prog 97 [.pointer (some ⟨g0, 0, none⟩), str d1] W (mone g0 (.cells [(b0_0 : Value), .int .i64 d0.2.1, .bool d0.2.2].toArray E0 (0, 0))) (fun v m' => ∃ (s0 : List Value), v = .agg s0.toArray ∧ Ow TOp m' s0 ((rOp d0.1 d1 d0.2).1) ∧ m' = mone g0 (.cells [(b0_0 : Value), .int .i64 ((rOp d0.1 d1 d0.2).2.1), .bool ((rOp d0.1 d1 d0.2).2.2)].toArray E0 (0, 0)) ∧ inK .i64 ((rOp d0.1 d1 d0.2).2.1)) := by
  have e0_ := e0; obtain ⟨e0a, e0b⟩ := e0_
  obtain ⟨A0_0, c0_0, rfl, l0_0, k0_0⟩ := h0_0.slice
  simp only [maxLen] at k0_0
  have h0_1' := h0_1; simp only [inK] at h0_1'
  have h1' := h1; simp only [maxLen] at h1'
  refine CallR.ofB (n := 43) hm Try.func97 rfl rfl rfl ?_
  refine VC.rs ?_
  refine VO.alloc 102 rfl tz95 (fun g1 => ?_)
  refine VO.k3 0 1 4 ?_
  refine VC.rs ?_
  refine VO.mv ?_
  refine VO.call 1 rfl fnOk96 rfl rfl (fun W hW => bNum_ok W (d0 := d0) (hW.at (i := 1) rfl) (Rd.mono h0_0 (hW.out (i := 1) (j := 0) rfl rfl)) bdk 1 bdk (by first | assumption | exact ⟨by omega, by omega⟩ | exact ⟨by (simp; done), by (simp; done)⟩)) (fun v3 m3 hv3 => ?_)
  obtain ⟨rfl, rfl, w3_0_1⟩ := hv3
  have hfa4 := (rNum_ok (B := d0.1) (m := 1) (s := d0.2) (by first | assumption | exact ⟨by omega, by omega⟩ | exact ⟨by (simp; done), by (simp; done)⟩) (by omega)).1
  have hfa5 := (rNum_ok (B := d0.1) (m := 1) (s := d0.2) (by first | assumption | exact ⟨by omega, by omega⟩ | exact ⟨by (simp; done), by (simp; done)⟩) (by omega)).1.1
  have hfa6 := (rNum_ok (B := d0.1) (m := 1) (s := d0.2) (by first | assumption | exact ⟨by omega, by omega⟩ | exact ⟨by (simp; done), by (simp; done)⟩) (by omega)).1.2
  have hfa7 := (rNum_ok (B := d0.1) (m := 1) (s := d0.2) (by first | assumption | exact ⟨by omega, by omega⟩ | exact ⟨by (simp; done), by (simp; done)⟩) (by omega)).2
  simp only [inK] at w3_0_1
  refine VO.y rfl (.eql rfl rfl) ?_
  refine VO.y rfl (.bst (cs := [Value.bool (decide (((rNum d0.1 1 d0.2).1) = 1)), str ([]), str ([])]) rfl tst95 tz95 rfl) ?_
  refine VO.alloc 109 rfl tz95 (fun g8 => ?_)
  refine VO.store (k := 3) (c' := [Value.bool (decide (((rNum d0.1 1 d0.2).1) = 1)), str ([]), str ([])]) 109 rfl rfl (.inl tk95) rfl rfl rfl rfl rfl ?_
  refine VO.k4 0 1 4 5 ?_
  refine VC.rs ?_
  refine VO.mv ?_
  refine VO.mv ?_
  refine VO.y rfl (.lenT rfl Try.underlying9) ?_
  refine VO.call 1 rfl fnOk96 rfl rfl (fun W hW => bNum_ok W (d0 := (d0.1, (rNum d0.1 1 d0.2).2)) (hW.at (i := 1) rfl) (Rd.mono h0_0 (hW.out (i := 1) (j := 0) rfl rfl)) bdk ((d1.length : Nat) : Int) bdk (by first | assumption | exact ⟨by omega, by omega⟩ | exact ⟨by (simp; done), by (simp; done)⟩)) (fun v10 m10 hv10 => ?_)
  try dsimp only at hv10
  obtain ⟨rfl, rfl, w10_0_1⟩ := hv10
  have hfa11 := (rNum_ok (B := d0.1) (m := ((d1.length : Nat) : Int)) (s := ((rNum d0.1 1 d0.2).2)) (by first | assumption | exact ⟨by omega, by omega⟩ | exact ⟨by (simp; done), by (simp; done)⟩) (by omega)).1
  have hfa12 := (rNum_ok (B := d0.1) (m := ((d1.length : Nat) : Int)) (s := ((rNum d0.1 1 d0.2).2)) (by first | assumption | exact ⟨by omega, by omega⟩ | exact ⟨by (simp; done), by (simp; done)⟩) (by omega)).1.1
  have hfa13 := (rNum_ok (B := d0.1) (m := ((d1.length : Nat) : Int)) (s := ((rNum d0.1 1 d0.2).2)) (by first | assumption | exact ⟨by omega, by omega⟩ | exact ⟨by (simp; done), by (simp; done)⟩) (by omega)).1.2
  have hfa14 := (rNum_ok (B := d0.1) (m := ((d1.length : Nat) : Int)) (s := ((rNum d0.1 1 d0.2).2)) (by first | assumption | exact ⟨by omega, by omega⟩ | exact ⟨by (simp; done), by (simp; done)⟩) (by omega)).2
  simp only [inK] at w10_0_1
  refine VO.as ?_
  refine VO.kp [1, 109, 102, 0] [(1, mone g0 (.cells [Value.slice A0_0 (d0.1.length) (c0_0), Value.int .i64 ((rNum d0.1 ((d1.length : Nat) : Int) ((rNum d0.1 1 d0.2).2)).2.1), Value.bool ((rNum d0.1 ((d1.length : Nat) : Int) ((rNum d0.1 1 d0.2).2)).2.2)].toArray E0 (0, 0))), (109, mone g8 (.cells [Value.bool (decide (((rNum d0.1 1 d0.2).1) = 1)), str ([]), str ([])].toArray 95 (0, 0))), (102, mone g1 (.cells [Value.bool false, str ([]), str ([])].toArray 95 (0, 0))), (0, mout (wm W) (mone g0 (.cells [Value.slice A0_0 (d0.1.length) (c0_0), Value.int .i64 (d0.2.1), Value.bool d0.2.2].toArray E0 (0, 0))))] ?_
  refine VO.k5 0 1 4 5 6 ?_
  refine VC.seq ?_
  refine VC.regD _ 5 [(0, true), (1, true), (2, true), (3, true), (4, false)] follows (by kernel_rfl) (fun _ h => h.sub [109, 102, 0]) ?_
  refine VD.y rfl rfl (.inl rfl) (.mv rfl) ?_
  refine VD.y rfl rfl (.inl rfl) (.mv rfl) ?_
  refine VD.y rfl rfl (.inl rfl) (.slTHI (((rNum d0.1 ((d1.length : Nat) : Int) ((rNum d0.1 1 d0.2).2)).1).toNat) rfl rfl Try.underlying9 bd bd) ?_
  refine VD.y rfl rfl (.inl rfl) (.mv rfl) ?_
  refine VD.call 1 rfl rfl (.inl rfl) fnOk101 rfl rfl (fun _ _ h => h.sub [109, 102, 0]) (fun W hW => bText_ok W (d0 := (d0.1, (rNum d0.1 ((d1.length : Nat) : Int) ((rNum d0.1 1 d0.2).2)).2)) (hW.at (i := 1) rfl) (Rd.mono h0_0 (hW.out (i := 1) (j := 0) rfl rfl)) bdk 16 bdk (by first | assumption | exact ⟨by omega, by omega⟩ | exact ⟨by (simp; done), by (simp; done)⟩) bd) (fun v15 m15 hv15 => ?_)
  try dsimp only at hv15
  obtain ⟨rfl, rfl, w15_0_1⟩ := hv15
  have hfa16 := (rText_ok (B := d0.1) (m := 16) (s := ((rNum d0.1 ((d1.length : Nat) : Int) ((rNum d0.1 1 d0.2).2)).2)) (by first | assumption | exact ⟨by omega, by omega⟩ | exact ⟨by (simp; done), by (simp; done)⟩) (by omega) (by omega)).1
  have hfa17 := (rText_ok (B := d0.1) (m := 16) (s := ((rNum d0.1 ((d1.length : Nat) : Int) ((rNum d0.1 1 d0.2).2)).2)) (by first | assumption | exact ⟨by omega, by omega⟩ | exact ⟨by (simp; done), by (simp; done)⟩) (by omega) (by omega)).1.1
  have hfa18 := (rText_ok (B := d0.1) (m := 16) (s := ((rNum d0.1 ((d1.length : Nat) : Int) ((rNum d0.1 1 d0.2).2)).2)) (by first | assumption | exact ⟨by omega, by omega⟩ | exact ⟨by (simp; done), by (simp; done)⟩) (by omega) (by omega)).1.2
  have hfa19 := (rText_ok (B := d0.1) (m := 16) (s := ((rNum d0.1 ((d1.length : Nat) : Int) ((rNum d0.1 1 d0.2).2)).2)) (by first | assumption | exact ⟨by omega, by omega⟩ | exact ⟨by (simp; done), by (simp; done)⟩) (by omega) (by omega)).2
  simp only [inK] at w15_0_1
  refine VD.nil rfl ?_ rfl
  refine VO.y rfl (.scat rfl rfl bd) ?_
  refine VO.y rfl (.fa rfl tst95 rfl) ?_
  refine VO.store (k := 1) (c' := [Value.bool (decide (((rNum d0.1 1 d0.2).1) = 1)), str ((d1.take (((rNum d0.1 ((d1.length : Nat) : Int) ((rNum d0.1 1 d0.2).2)).1).toNat)) ++ ((rText d0.1 16 ((rNum d0.1 ((d1.length : Nat) : Int) ((rNum d0.1 1 d0.2).2)).2)).1)), str ([])]) 109 rfl rfl (.inr ⟨tk9, rfl⟩) rfl rfl rfl rfl rfl ?_
  refine VO.k5 0 1 4 5 6 ?_
  refine outN ?_
  refine VC.rs ?_
  refine VO.mv ?_
  refine VO.mv ?_
  refine VO.y rfl (.nilp rfl) ?_
  refine VO.y rfl (.fa rfl tst132 rfl) ?_
  refine VO.y rfl (.ld1 1 rfl tk4 rfl (cellsAt_one rfl rfl)) ?_
  refine VO.mv ?_
  refine VO.decB (t := 27) rfl (fun hc20 => ?_) (fun hc20 => ?_)
  · -- T
    refine VO.gN ?_
    refine VO.gN ?_
    refine VO.gN ?_
    refine VO.gN ?_
    refine VO.gN ?_
    refine VO.gN ?_
    refine VO.y rfl (.pT rfl rfl) ?_
    refine VO.y rfl (.nilp rfl) ?_
    refine VO.y rfl (.fa rfl tst132 rfl) ?_
    refine VO.store (k := 1) (c' := [Value.slice A0_0 (d0.1.length) (c0_0), Value.int .i64 ((rText d0.1 16 ((rNum d0.1 ((d1.length : Nat) : Int) ((rNum d0.1 1 d0.2).2)).2)).2.1), Value.bool true]) 1 rfl rfl (.inr ⟨tk4, rfl⟩) rfl rfl rfl rfl rfl ?_
    refine VO.k5 0 1 4 5 6 ?_
    refine VC.seq ?_
    refine VC.rs ?_
    refine VO.y rfl (.fa rfl tst95 rfl) ?_
    refine VO.y rfl (.ld1 109 rfl tk4 rfl (cellsAt_one rfl rfl)) ?_
    refine VO.kp [1, 109, 102, 0] [(1, mone g0 (.cells [Value.slice A0_0 (d0.1.length) (c0_0), Value.int .i64 ((rText d0.1 16 ((rNum d0.1 ((d1.length : Nat) : Int) ((rNum d0.1 1 d0.2).2)).2)).2.1), Value.bool true].toArray E0 (0, 0))), (109, mone g8 (.cells [Value.bool (decide (((rNum d0.1 1 d0.2).1) = 1)), str ((d1.take (((rNum d0.1 ((d1.length : Nat) : Int) ((rNum d0.1 1 d0.2).2)).1).toNat)) ++ ((rText d0.1 16 ((rNum d0.1 ((d1.length : Nat) : Int) ((rNum d0.1 1 d0.2).2)).2)).1)), str ([])].toArray 95 (0, 0))), (102, mone g1 (.cells [Value.bool false, str ([]), str ([])].toArray 95 (0, 0))), (0, mout (wm W) (mone g0 (.cells [Value.slice A0_0 (d0.1.length) (c0_0), Value.int .i64 (d0.2.1), Value.bool d0.2.2].toArray E0 (0, 0))))] ?_
    refine VO.k6 0 1 4 5 6 38 ?_
    refine VC.cond rfl (fun hc21 => ?_) (fun hc21 => ?_)
    · -- TT
      refine VC.reg ?_
      refine VO.mv ?_
      refine VO.call 1 rfl fnOk101 rfl rfl (fun W hW => bText_ok W (d0 := (d0.1, (rText d0.1 16 ((rNum d0.1 ((d1.length : Nat) : Int) ((rNum d0.1 1 d0.2).2)).2)).2.1, true)) (hW.at (i := 1) rfl) (Rd.mono h0_0 (hW.out (i := 1) (j := 0) rfl rfl)) bdk 32 bdk (by first | assumption | exact ⟨by omega, by omega⟩ | exact ⟨by (simp; done), by (simp; done)⟩) bd) (fun v22 m22 hv22 => ?_)
      try dsimp only at hv22
      obtain ⟨rfl, rfl, w22_0_1⟩ := hv22
      have hfa23 := (rText_ok (B := d0.1) (m := 32) (s := ((rText d0.1 16 ((rNum d0.1 ((d1.length : Nat) : Int) ((rNum d0.1 1 d0.2).2)).2)).2.1, true)) (by first | assumption | exact ⟨by omega, by omega⟩ | exact ⟨by (simp; done), by (simp; done)⟩) (by omega) (by omega)).1
      have hfa24 := (rText_ok (B := d0.1) (m := 32) (s := ((rText d0.1 16 ((rNum d0.1 ((d1.length : Nat) : Int) ((rNum d0.1 1 d0.2).2)).2)).2.1, true)) (by first | assumption | exact ⟨by omega, by omega⟩ | exact ⟨by (simp; done), by (simp; done)⟩) (by omega) (by omega)).1.1
      have hfa25 := (rText_ok (B := d0.1) (m := 32) (s := ((rText d0.1 16 ((rNum d0.1 ((d1.length : Nat) : Int) ((rNum d0.1 1 d0.2).2)).2)).2.1, true)) (by first | assumption | exact ⟨by omega, by omega⟩ | exact ⟨by (simp; done), by (simp; done)⟩) (by omega) (by omega)).1.2
      have hfa26 := (rText_ok (B := d0.1) (m := 32) (s := ((rText d0.1 16 ((rNum d0.1 ((d1.length : Nat) : Int) ((rNum d0.1 1 d0.2).2)).2)).2.1, true)) (by first | assumption | exact ⟨by omega, by omega⟩ | exact ⟨by (simp; done), by (simp; done)⟩) (by omega) (by omega)).2
      simp only [inK] at w22_0_1
      refine VO.y rfl (.fa rfl tst95 rfl) ?_
      refine VO.store (k := 1) (c' := [Value.bool (decide (((rNum d0.1 1 d0.2).1) = 1)), str ((d1.take (((rNum d0.1 ((d1.length : Nat) : Int) ((rNum d0.1 1 d0.2).2)).1).toNat)) ++ ((rText d0.1 16 ((rNum d0.1 ((d1.length : Nat) : Int) ((rNum d0.1 1 d0.2).2)).2)).1)), str ((rText d0.1 32 ((rText d0.1 16 ((rNum d0.1 ((d1.length : Nat) : Int) ((rNum d0.1 1 d0.2).2)).2)).2.1, true)).1)]) 109 rfl rfl (.inr ⟨tk9, rfl⟩) rfl rfl rfl rfl rfl ?_
      refine VO.k6 0 1 4 5 6 38 ?_
      refine outN ?_
      refine VC.rs ?_
      refine VO.y rfl (.ldA 109 rfl tk95 rfl (cellsAt_one rfl rfl)) ?_
      refine VO.store (k := 3) (c' := [Value.bool (decide (((rNum d0.1 1 d0.2).1) = 1)), str ((d1.take (((rNum d0.1 ((d1.length : Nat) : Int) ((rNum d0.1 1 d0.2).2)).1).toNat)) ++ ((rText d0.1 16 ((rNum d0.1 ((d1.length : Nat) : Int) ((rNum d0.1 1 d0.2).2)).2)).1)), str ((rText d0.1 32 ((rText d0.1 16 ((rNum d0.1 ((d1.length : Nat) : Int) ((rNum d0.1 1 d0.2).2)).2)).2.1, true)).1)]) 102 rfl rfl (.inl tk95) rfl rfl rfl rfl rfl ?_
      refine VO.k6 0 1 4 5 6 38 ?_
      refine VC.ret ?_
      refine ⟨_, _, res_run (rs := [.cell 4 95]) rfl (.agg 102 rfl tk95 rfl ⟨_, _, _, mone_self _ _, Nat.le_of_ble_eq_true rfl, rfl⟩ .nil), fun W_ hI => out_of (l := [mone g0 (.cells [Value.slice A0_0 (d0.1.length) (c0_0), Value.int .i64 ((rText d0.1 32 ((rText d0.1 16 ((rNum d0.1 ((d1.length : Nat) : Int) ((rNum d0.1 1 d0.2).2)).2)).2.1, true)).2.1), Value.bool ((rText d0.1 32 ((rText d0.1 16 ((rNum d0.1 ((d1.length : Nat) : Int) ((rNum d0.1 1 d0.2).2)).2)).2.1, true)).2.2)].toArray E0 (0, 0))]) hI [1] rfl rfl (mle_refl _) (fun hS_ => ?_)⟩
      dsimp only [packV]
      have he0 : ((rOp d0.1 d1 d0.2).1 : Ty.Den TOp) = (decide (((rNum d0.1 1 d0.2).1) = 1), (d1.take (((rNum d0.1 ((d1.length : Nat) : Int) ((rNum d0.1 1 d0.2).2)).1).toNat)) ++ ((rText d0.1 16 ((rNum d0.1 ((d1.length : Nat) : Int) ((rNum d0.1 1 d0.2).2)).2)).1), (rText d0.1 32 ((rText d0.1 16 ((rNum d0.1 ((d1.length : Nat) : Int) ((rNum d0.1 1 d0.2).2)).2)).2.1, true)).1) := by first | rfl | (unfold rOp; simp [*])
      have hm0_1 : ((rOp d0.1 d1 d0.2).2.1 : Int) = (rText d0.1 32 ((rText d0.1 16 ((rNum d0.1 ((d1.length : Nat) : Int) ((rNum d0.1 1 d0.2).2)).2)).2.1, true)).2.1 := by first | rfl | (unfold rOp; simp [*])
      have hm0_2 : ((rOp d0.1 d1 d0.2).2.2 : Bool) = (rText d0.1 32 ((rText d0.1 16 ((rNum d0.1 ((d1.length : Nat) : Int) ((rNum d0.1 1 d0.2).2)).2)).2.1, true)).2.2 := by first | rfl | (unfold rOp; simp [*])
      refine ⟨[Value.bool (decide (((rNum d0.1 1 d0.2).1) = 1)), str ((d1.take (((rNum d0.1 ((d1.length : Nat) : Int) ((rNum d0.1 1 d0.2).2)).1).toNat)) ++ ((rText d0.1 16 ((rNum d0.1 ((d1.length : Nat) : Int) ((rNum d0.1 1 d0.2).2)).2)).1)), str ((rText d0.1 32 ((rText d0.1 16 ((rNum d0.1 ((d1.length : Nat) : Int) ((rNum d0.1 1 d0.2).2)).2)).2.1, true)).1)], ?_, ?_, ?_, ?_⟩
      rotate_left
      · rw [he0]; exact (Ow.of (m := mnil) rfl (mk_Op (m := _) (decide (((rNum d0.1 1 d0.2).1) = 1)) ((d1.take (((rNum d0.1 ((d1.length : Nat) : Int) ((rNum d0.1 1 d0.2).2)).1).toNat)) ++ ((rText d0.1 16 ((rNum d0.1 ((d1.length : Nat) : Int) ((rNum d0.1 1 d0.2).2)).2)).1)) ((rText d0.1 32 ((rText d0.1 16 ((rNum d0.1 ((d1.length : Nat) : Int) ((rNum d0.1 1 d0.2).2)).2)).2.1, true)).1) bdm bdm))
      · rw [hm0_1, hm0_2, muns_one]
      · rw [hm0_1]; exact (show inK .i64 _ by simp only [inK]; (first | omega | (simp only [List.length_append, List.length_nil, List.length_cons, List.length_take, List.length_drop] at *; omega)))
      all_goals (first | rfl | (simp [*]; done))
    · -- TF
      refine VC.skip ?_
      refine outN ?_
      refine VC.rs ?_
      refine VO.y rfl (.ldA 109 rfl tk95 rfl (cellsAt_one rfl rfl)) ?_
      refine VO.store (k := 3) (c' := [Value.bool (decide (((rNum d0.1 1 d0.2).1) = 1)), str ((d1.take (((rNum d0.1 ((d1.length : Nat) : Int) ((rNum d0.1 1 d0.2).2)).1).toNat)) ++ ((rText d0.1 16 ((rNum d0.1 ((d1.length : Nat) : Int) ((rNum d0.1 1 d0.2).2)).2)).1)), str ([])]) 102 rfl rfl (.inl tk95) rfl rfl rfl rfl rfl ?_
      refine VO.k6 0 1 4 5 6 38 ?_
      refine VC.ret ?_
      refine ⟨_, _, res_run (rs := [.cell 4 95]) rfl (.agg 102 rfl tk95 rfl ⟨_, _, _, mone_self _ _, Nat.le_of_ble_eq_true rfl, rfl⟩ .nil), fun W_ hI => out_of (l := [mone g0 (.cells [Value.slice A0_0 (d0.1.length) (c0_0), Value.int .i64 ((rText d0.1 16 ((rNum d0.1 ((d1.length : Nat) : Int) ((rNum d0.1 1 d0.2).2)).2)).2.1), Value.bool true].toArray E0 (0, 0))]) hI [1] rfl rfl (mle_refl _) (fun hS_ => ?_)⟩
      dsimp only [packV]
      have he0 : ((rOp d0.1 d1 d0.2).1 : Ty.Den TOp) = (decide (((rNum d0.1 1 d0.2).1) = 1), (d1.take (((rNum d0.1 ((d1.length : Nat) : Int) ((rNum d0.1 1 d0.2).2)).1).toNat)) ++ ((rText d0.1 16 ((rNum d0.1 ((d1.length : Nat) : Int) ((rNum d0.1 1 d0.2).2)).2)).1), []) := by first | rfl | (unfold rOp; simp [*])
      have hm0_1 : ((rOp d0.1 d1 d0.2).2.1 : Int) = (rText d0.1 16 ((rNum d0.1 ((d1.length : Nat) : Int) ((rNum d0.1 1 d0.2).2)).2)).2.1 := by first | rfl | (unfold rOp; simp [*])
      have hm0_2 : ((rOp d0.1 d1 d0.2).2.2 : Bool) = true := by first | rfl | (unfold rOp; simp [*])
      refine ⟨[Value.bool (decide (((rNum d0.1 1 d0.2).1) = 1)), str ((d1.take (((rNum d0.1 ((d1.length : Nat) : Int) ((rNum d0.1 1 d0.2).2)).1).toNat)) ++ ((rText d0.1 16 ((rNum d0.1 ((d1.length : Nat) : Int) ((rNum d0.1 1 d0.2).2)).2)).1)), str ([])], ?_, ?_, ?_, ?_⟩
      rotate_left
      · rw [he0]; exact (Ow.of (m := mnil) rfl (mk_Op (m := _) (decide (((rNum d0.1 1 d0.2).1) = 1)) ((d1.take (((rNum d0.1 ((d1.length : Nat) : Int) ((rNum d0.1 1 d0.2).2)).1).toNat)) ++ ((rText d0.1 16 ((rNum d0.1 ((d1.length : Nat) : Int) ((rNum d0.1 1 d0.2).2)).2)).1)) [] bdm bdm))
      · rw [hm0_1, hm0_2, muns_one]
      · rw [hm0_1]; exact (show inK .i64 _ by simp only [inK]; (first | omega | (simp only [List.length_append, List.length_nil, List.length_cons, List.length_take, List.length_drop] at *; omega)))
      all_goals (first | rfl | (simp [*]; done))
  · -- F
    refine VO.gy rfl ⟨_, rfl, rfl⟩ (.mv rfl) ?_
    refine VO.gy rfl ⟨_, rfl, rfl⟩ (.fa rfl tst95 rfl) ?_
    refine VO.gy rfl ⟨_, rfl, rfl⟩ (.ld1 109 rfl tk9 rfl (cellsAt_one rfl rfl)) ?_
    refine VO.gcallN 127 rfl ⟨_, rfl, rfl⟩ fnOk94 rfl (fun W hW => shared_ok W d1 bdm ((d1.take (((rNum d0.1 ((d1.length : Nat) : Int) ((rNum d0.1 1 d0.2).2)).1).toNat)) ++ ((rText d0.1 16 ((rNum d0.1 ((d1.length : Nat) : Int) ((rNum d0.1 1 d0.2).2)).2)).1)) bdm) (fun v27 m27 hv27 => ?_)
    subst hv27
    have hfa28 := shared_le d1 ((d1.take (((rNum d0.1 ((d1.length : Nat) : Int) ((rNum d0.1 1 d0.2).2)).1).toNat)) ++ ((rText d0.1 16 ((rNum d0.1 ((d1.length : Nat) : Int) ((rNum d0.1 1 d0.2).2)).2)).1))
    refine VO.gy rfl ⟨_, rfl, rfl⟩ (.mv rfl) ?_
    refine VO.gy rfl ⟨_, rfl, rfl⟩ (.neq rfl rfl) ?_
    refine VO.y rfl (.pF rfl rfl) ?_
    refine VO.y rfl (.nilp rfl) ?_
    refine VO.y rfl (.fa rfl tst132 rfl) ?_
    refine VO.store (k := 1) (c' := [Value.slice A0_0 (d0.1.length) (c0_0), Value.int .i64 ((rText d0.1 16 ((rNum d0.1 ((d1.length : Nat) : Int) ((rNum d0.1 1 d0.2).2)).2)).2.1), Value.bool (decide (¬ ((shared d1 ((d1.take (((rNum d0.1 ((d1.length : Nat) : Int) ((rNum d0.1 1 d0.2).2)).1).toNat)) ++ ((rText d0.1 16 ((rNum d0.1 ((d1.length : Nat) : Int) ((rNum d0.1 1 d0.2).2)).2)).1)) : Nat) : Int) = ((rNum d0.1 ((d1.length : Nat) : Int) ((rNum d0.1 1 d0.2).2)).1)))]) 1 rfl rfl (.inr ⟨tk4, rfl⟩) rfl rfl rfl rfl rfl ?_
    refine VO.k5 0 1 4 5 6 ?_
    refine VC.seq ?_
    refine VC.rs ?_
    refine VO.y rfl (.fa rfl tst95 rfl) ?_
    refine VO.y rfl (.ld1 109 rfl tk4 rfl (cellsAt_one rfl rfl)) ?_
    refine VO.kp [1, 109, 102, 0] [(1, mone g0 (.cells [Value.slice A0_0 (d0.1.length) (c0_0), Value.int .i64 ((rText d0.1 16 ((rNum d0.1 ((d1.length : Nat) : Int) ((rNum d0.1 1 d0.2).2)).2)).2.1), Value.bool (decide (¬ ((shared d1 ((d1.take (((rNum d0.1 ((d1.length : Nat) : Int) ((rNum d0.1 1 d0.2).2)).1).toNat)) ++ ((rText d0.1 16 ((rNum d0.1 ((d1.length : Nat) : Int) ((rNum d0.1 1 d0.2).2)).2)).1)) : Nat) : Int) = ((rNum d0.1 ((d1.length : Nat) : Int) ((rNum d0.1 1 d0.2).2)).1)))].toArray E0 (0, 0))), (109, mone g8 (.cells [Value.bool (decide (((rNum d0.1 1 d0.2).1) = 1)), str ((d1.take (((rNum d0.1 ((d1.length : Nat) : Int) ((rNum d0.1 1 d0.2).2)).1).toNat)) ++ ((rText d0.1 16 ((rNum d0.1 ((d1.length : Nat) : Int) ((rNum d0.1 1 d0.2).2)).2)).1)), str ([])].toArray 95 (0, 0))), (102, mone g1 (.cells [Value.bool false, str ([]), str ([])].toArray 95 (0, 0))), (0, mout (wm W) (mone g0 (.cells [Value.slice A0_0 (d0.1.length) (c0_0), Value.int .i64 (d0.2.1), Value.bool d0.2.2].toArray E0 (0, 0))))] ?_
    refine VO.k6 0 1 4 5 6 38 ?_
    refine VC.cond rfl (fun hc29 => ?_) (fun hc29 => ?_)
    · -- FT
      refine VC.reg ?_
      refine VO.mv ?_
      refine VO.call 1 rfl fnOk101 rfl rfl (fun W hW => bText_ok W (d0 := (d0.1, (rText d0.1 16 ((rNum d0.1 ((d1.length : Nat) : Int) ((rNum d0.1 1 d0.2).2)).2)).2.1, decide (¬ ((shared d1 ((d1.take (((rNum d0.1 ((d1.length : Nat) : Int) ((rNum d0.1 1 d0.2).2)).1).toNat)) ++ ((rText d0.1 16 ((rNum d0.1 ((d1.length : Nat) : Int) ((rNum d0.1 1 d0.2).2)).2)).1)) : Nat) : Int) = ((rNum d0.1 ((d1.length : Nat) : Int) ((rNum d0.1 1 d0.2).2)).1)))) (hW.at (i := 1) rfl) (Rd.mono h0_0 (hW.out (i := 1) (j := 0) rfl rfl)) bdk 32 bdk (by first | assumption | exact ⟨by omega, by omega⟩ | exact ⟨by (simp; done), by (simp; done)⟩) bd) (fun v30 m30 hv30 => ?_)
      try dsimp only at hv30
      obtain ⟨rfl, rfl, w30_0_1⟩ := hv30
      have hfa31 := (rText_ok (B := d0.1) (m := 32) (s := ((rText d0.1 16 ((rNum d0.1 ((d1.length : Nat) : Int) ((rNum d0.1 1 d0.2).2)).2)).2.1, decide (¬ ((shared d1 ((d1.take (((rNum d0.1 ((d1.length : Nat) : Int) ((rNum d0.1 1 d0.2).2)).1).toNat)) ++ ((rText d0.1 16 ((rNum d0.1 ((d1.length : Nat) : Int) ((rNum d0.1 1 d0.2).2)).2)).1)) : Nat) : Int) = ((rNum d0.1 ((d1.length : Nat) : Int) ((rNum d0.1 1 d0.2).2)).1)))) (by first | assumption | exact ⟨by omega, by omega⟩ | exact ⟨by (simp; done), by (simp; done)⟩) (by omega) (by omega)).1
      have hfa32 := (rText_ok (B := d0.1) (m := 32) (s := ((rText d0.1 16 ((rNum d0.1 ((d1.length : Nat) : Int) ((rNum d0.1 1 d0.2).2)).2)).2.1, decide (¬ ((shared d1 ((d1.take (((rNum d0.1 ((d1.length : Nat) : Int) ((rNum d0.1 1 d0.2).2)).1).toNat)) ++ ((rText d0.1 16 ((rNum d0.1 ((d1.length : Nat) : Int) ((rNum d0.1 1 d0.2).2)).2)).1)) : Nat) : Int) = ((rNum d0.1 ((d1.length : Nat) : Int) ((rNum d0.1 1 d0.2).2)).1)))) (by first | assumption | exact ⟨by omega, by omega⟩ | exact ⟨by (simp; done), by (simp; done)⟩) (by omega) (by omega)).1.1
      have hfa33 := (rText_ok (B := d0.1) (m := 32) (s := ((rText d0.1 16 ((rNum d0.1 ((d1.length : Nat) : Int) ((rNum d0.1 1 d0.2).2)).2)).2.1, decide (¬ ((shared d1 ((d1.take (((rNum d0.1 ((d1.length : Nat) : Int) ((rNum d0.1 1 d0.2).2)).1).toNat)) ++ ((rText d0.1 16 ((rNum d0.1 ((d1.length : Nat) : Int) ((rNum d0.1 1 d0.2).2)).2)).1)) : Nat) : Int) = ((rNum d0.1 ((d1.length : Nat) : Int) ((rNum d0.1 1 d0.2).2)).1)))) (by first | assumption | exact ⟨by omega, by omega⟩ | exact ⟨by (simp; done), by (simp; done)⟩) (by omega) (by omega)).1.2
      have hfa34 := (rText_ok (B := d0.1) (m := 32) (s := ((rText d0.1 16 ((rNum d0.1 ((d1.length : Nat) : Int) ((rNum d0.1 1 d0.2).2)).2)).2.1, decide (¬ ((shared d1 ((d1.take (((rNum d0.1 ((d1.length : Nat) : Int) ((rNum d0.1 1 d0.2).2)).1).toNat)) ++ ((rText d0.1 16 ((rNum d0.1 ((d1.length : Nat) : Int) ((rNum d0.1 1 d0.2).2)).2)).1)) : Nat) : Int) = ((rNum d0.1 ((d1.length : Nat) : Int) ((rNum d0.1 1 d0.2).2)).1)))) (by first | assumption | exact ⟨by omega, by omega⟩ | exact ⟨by (simp; done), by (simp; done)⟩) (by omega) (by omega)).2
      simp only [inK] at w30_0_1
      refine VO.y rfl (.fa rfl tst95 rfl) ?_
      refine VO.store (k := 1) (c' := [Value.bool (decide (((rNum d0.1 1 d0.2).1) = 1)), str ((d1.take (((rNum d0.1 ((d1.length : Nat) : Int) ((rNum d0.1 1 d0.2).2)).1).toNat)) ++ ((rText d0.1 16 ((rNum d0.1 ((d1.length : Nat) : Int) ((rNum d0.1 1 d0.2).2)).2)).1)), str ((rText d0.1 32 ((rText d0.1 16 ((rNum d0.1 ((d1.length : Nat) : Int) ((rNum d0.1 1 d0.2).2)).2)).2.1, decide (¬ ((shared d1 ((d1.take (((rNum d0.1 ((d1.length : Nat) : Int) ((rNum d0.1 1 d0.2).2)).1).toNat)) ++ ((rText d0.1 16 ((rNum d0.1 ((d1.length : Nat) : Int) ((rNum d0.1 1 d0.2).2)).2)).1)) : Nat) : Int) = ((rNum d0.1 ((d1.length : Nat) : Int) ((rNum d0.1 1 d0.2).2)).1)))).1)]) 109 rfl rfl (.inr ⟨tk9, rfl⟩) rfl rfl rfl rfl rfl ?_
      refine VO.k6 0 1 4 5 6 38 ?_
      refine outN ?_
      refine VC.rs ?_
      refine VO.y rfl (.ldA 109 rfl tk95 rfl (cellsAt_one rfl rfl)) ?_
      refine VO.store (k := 3) (c' := [Value.bool (decide (((rNum d0.1 1 d0.2).1) = 1)), str ((d1.take (((rNum d0.1 ((d1.length : Nat) : Int) ((rNum d0.1 1 d0.2).2)).1).toNat)) ++ ((rText d0.1 16 ((rNum d0.1 ((d1.length : Nat) : Int) ((rNum d0.1 1 d0.2).2)).2)).1)), str ((rText d0.1 32 ((rText d0.1 16 ((rNum d0.1 ((d1.length : Nat) : Int) ((rNum d0.1 1 d0.2).2)).2)).2.1, decide (¬ ((shared d1 ((d1.take (((rNum d0.1 ((d1.length : Nat) : Int) ((rNum d0.1 1 d0.2).2)).1).toNat)) ++ ((rText d0.1 16 ((rNum d0.1 ((d1.length : Nat) : Int) ((rNum d0.1 1 d0.2).2)).2)).1)) : Nat) : Int) = ((rNum d0.1 ((d1.length : Nat) : Int) ((rNum d0.1 1 d0.2).2)).1)))).1)]) 102 rfl rfl (.inl tk95) rfl rfl rfl rfl rfl ?_
      refine VO.k6 0 1 4 5 6 38 ?_
      refine VC.ret ?_
      refine ⟨_, _, res_run (rs := [.cell 4 95]) rfl (.agg 102 rfl tk95 rfl ⟨_, _, _, mone_self _ _, Nat.le_of_ble_eq_true rfl, rfl⟩ .nil), fun W_ hI => out_of (l := [mone g0 (.cells [Value.slice A0_0 (d0.1.length) (c0_0), Value.int .i64 ((rText d0.1 32 ((rText d0.1 16 ((rNum d0.1 ((d1.length : Nat) : Int) ((rNum d0.1 1 d0.2).2)).2)).2.1, decide (¬ ((shared d1 ((d1.take (((rNum d0.1 ((d1.length : Nat) : Int) ((rNum d0.1 1 d0.2).2)).1).toNat)) ++ ((rText d0.1 16 ((rNum d0.1 ((d1.length : Nat) : Int) ((rNum d0.1 1 d0.2).2)).2)).1)) : Nat) : Int) = ((rNum d0.1 ((d1.length : Nat) : Int) ((rNum d0.1 1 d0.2).2)).1)))).2.1), Value.bool ((rText d0.1 32 ((rText d0.1 16 ((rNum d0.1 ((d1.length : Nat) : Int) ((rNum d0.1 1 d0.2).2)).2)).2.1, decide (¬ ((shared d1 ((d1.take (((rNum d0.1 ((d1.length : Nat) : Int) ((rNum d0.1 1 d0.2).2)).1).toNat)) ++ ((rText d0.1 16 ((rNum d0.1 ((d1.length : Nat) : Int) ((rNum d0.1 1 d0.2).2)).2)).1)) : Nat) : Int) = ((rNum d0.1 ((d1.length : Nat) : Int) ((rNum d0.1 1 d0.2).2)).1)))).2.2)].toArray E0 (0, 0))]) hI [1] rfl rfl (mle_refl _) (fun hS_ => ?_)⟩
      dsimp only [packV]
      have he0 : ((rOp d0.1 d1 d0.2).1 : Ty.Den TOp) = (decide (((rNum d0.1 1 d0.2).1) = 1), (d1.take (((rNum d0.1 ((d1.length : Nat) : Int) ((rNum d0.1 1 d0.2).2)).1).toNat)) ++ ((rText d0.1 16 ((rNum d0.1 ((d1.length : Nat) : Int) ((rNum d0.1 1 d0.2).2)).2)).1), (rText d0.1 32 ((rText d0.1 16 ((rNum d0.1 ((d1.length : Nat) : Int) ((rNum d0.1 1 d0.2).2)).2)).2.1, decide (¬ ((shared d1 ((d1.take (((rNum d0.1 ((d1.length : Nat) : Int) ((rNum d0.1 1 d0.2).2)).1).toNat)) ++ ((rText d0.1 16 ((rNum d0.1 ((d1.length : Nat) : Int) ((rNum d0.1 1 d0.2).2)).2)).1)) : Nat) : Int) = ((rNum d0.1 ((d1.length : Nat) : Int) ((rNum d0.1 1 d0.2).2)).1)))).1) := by first | rfl | (unfold rOp; simp [*])
      have hm0_1 : ((rOp d0.1 d1 d0.2).2.1 : Int) = (rText d0.1 32 ((rText d0.1 16 ((rNum d0.1 ((d1.length : Nat) : Int) ((rNum d0.1 1 d0.2).2)).2)).2.1, decide (¬ ((shared d1 ((d1.take (((rNum d0.1 ((d1.length : Nat) : Int) ((rNum d0.1 1 d0.2).2)).1).toNat)) ++ ((rText d0.1 16 ((rNum d0.1 ((d1.length : Nat) : Int) ((rNum d0.1 1 d0.2).2)).2)).1)) : Nat) : Int) = ((rNum d0.1 ((d1.length : Nat) : Int) ((rNum d0.1 1 d0.2).2)).1)))).2.1 := by first | rfl | (unfold rOp; simp [*])
      have hm0_2 : ((rOp d0.1 d1 d0.2).2.2 : Bool) = (rText d0.1 32 ((rText d0.1 16 ((rNum d0.1 ((d1.length : Nat) : Int) ((rNum d0.1 1 d0.2).2)).2)).2.1, decide (¬ ((shared d1 ((d1.take (((rNum d0.1 ((d1.length : Nat) : Int) ((rNum d0.1 1 d0.2).2)).1).toNat)) ++ ((rText d0.1 16 ((rNum d0.1 ((d1.length : Nat) : Int) ((rNum d0.1 1 d0.2).2)).2)).1)) : Nat) : Int) = ((rNum d0.1 ((d1.length : Nat) : Int) ((rNum d0.1 1 d0.2).2)).1)))).2.2 := by first | rfl | (unfold rOp; simp [*])
      refine ⟨[Value.bool (decide (((rNum d0.1 1 d0.2).1) = 1)), str ((d1.take (((rNum d0.1 ((d1.length : Nat) : Int) ((rNum d0.1 1 d0.2).2)).1).toNat)) ++ ((rText d0.1 16 ((rNum d0.1 ((d1.length : Nat) : Int) ((rNum d0.1 1 d0.2).2)).2)).1)), str ((rText d0.1 32 ((rText d0.1 16 ((rNum d0.1 ((d1.length : Nat) : Int) ((rNum d0.1 1 d0.2).2)).2)).2.1, decide (¬ ((shared d1 ((d1.take (((rNum d0.1 ((d1.length : Nat) : Int) ((rNum d0.1 1 d0.2).2)).1).toNat)) ++ ((rText d0.1 16 ((rNum d0.1 ((d1.length : Nat) : Int) ((rNum d0.1 1 d0.2).2)).2)).1)) : Nat) : Int) = ((rNum d0.1 ((d1.length : Nat) : Int) ((rNum d0.1 1 d0.2).2)).1)))).1)], ?_, ?_, ?_, ?_⟩
      rotate_left
      · rw [he0]; exact (Ow.of (m := mnil) rfl (mk_Op (m := _) (decide (((rNum d0.1 1 d0.2).1) = 1)) ((d1.take (((rNum d0.1 ((d1.length : Nat) : Int) ((rNum d0.1 1 d0.2).2)).1).toNat)) ++ ((rText d0.1 16 ((rNum d0.1 ((d1.length : Nat) : Int) ((rNum d0.1 1 d0.2).2)).2)).1)) ((rText d0.1 32 ((rText d0.1 16 ((rNum d0.1 ((d1.length : Nat) : Int) ((rNum d0.1 1 d0.2).2)).2)).2.1, decide (¬ ((shared d1 ((d1.take (((rNum d0.1 ((d1.length : Nat) : Int) ((rNum d0.1 1 d0.2).2)).1).toNat)) ++ ((rText d0.1 16 ((rNum d0.1 ((d1.length : Nat) : Int) ((rNum d0.1 1 d0.2).2)).2)).1)) : Nat) : Int) = ((rNum d0.1 ((d1.length : Nat) : Int) ((rNum d0.1 1 d0.2).2)).1)))).1) bdm bdm))
      · rw [hm0_1, hm0_2, muns_one]
      · rw [hm0_1]; exact (show inK .i64 _ by simp only [inK]; (first | omega | (simp only [List.length_append, List.length_nil, List.length_cons, List.length_take, List.length_drop] at *; omega)))
      all_goals (first | rfl | (simp [*]; done))
    · -- FF
      refine VC.skip ?_
      refine outN ?_
      refine VC.rs ?_
      refine VO.y rfl (.ldA 109 rfl tk95 rfl (cellsAt_one rfl rfl)) ?_
      refine VO.store (k := 3) (c' := [Value.bool (decide (((rNum d0.1 1 d0.2).1) = 1)), str ((d1.take (((rNum d0.1 ((d1.length : Nat) : Int) ((rNum d0.1 1 d0.2).2)).1).toNat)) ++ ((rText d0.1 16 ((rNum d0.1 ((d1.length : Nat) : Int) ((rNum d0.1 1 d0.2).2)).2)).1)), str ([])]) 102 rfl rfl (.inl tk95) rfl rfl rfl rfl rfl ?_
      refine VO.k6 0 1 4 5 6 38 ?_
      refine VC.ret ?_
      refine ⟨_, _, res_run (rs := [.cell 4 95]) rfl (.agg 102 rfl tk95 rfl ⟨_, _, _, mone_self _ _, Nat.le_of_ble_eq_true rfl, rfl⟩ .nil), fun W_ hI => out_of (l := [mone g0 (.cells [Value.slice A0_0 (d0.1.length) (c0_0), Value.int .i64 ((rText d0.1 16 ((rNum d0.1 ((d1.length : Nat) : Int) ((rNum d0.1 1 d0.2).2)).2)).2.1), Value.bool (decide (¬ ((shared d1 ((d1.take (((rNum d0.1 ((d1.length : Nat) : Int) ((rNum d0.1 1 d0.2).2)).1).toNat)) ++ ((rText d0.1 16 ((rNum d0.1 ((d1.length : Nat) : Int) ((rNum d0.1 1 d0.2).2)).2)).1)) : Nat) : Int) = ((rNum d0.1 ((d1.length : Nat) : Int) ((rNum d0.1 1 d0.2).2)).1)))].toArray E0 (0, 0))]) hI [1] rfl rfl (mle_refl _) (fun hS_ => ?_)⟩
      dsimp only [packV]
      have he0 : ((rOp d0.1 d1 d0.2).1 : Ty.Den TOp) = (decide (((rNum d0.1 1 d0.2).1) = 1), (d1.take (((rNum d0.1 ((d1.length : Nat) : Int) ((rNum d0.1 1 d0.2).2)).1).toNat)) ++ ((rText d0.1 16 ((rNum d0.1 ((d1.length : Nat) : Int) ((rNum d0.1 1 d0.2).2)).2)).1), []) := by first | rfl | (unfold rOp; simp [*])
      have hm0_1 : ((rOp d0.1 d1 d0.2).2.1 : Int) = (rText d0.1 16 ((rNum d0.1 ((d1.length : Nat) : Int) ((rNum d0.1 1 d0.2).2)).2)).2.1 := by first | rfl | (unfold rOp; simp [*])
      have hm0_2 : ((rOp d0.1 d1 d0.2).2.2 : Bool) = decide (¬ ((shared d1 ((d1.take (((rNum d0.1 ((d1.length : Nat) : Int) ((rNum d0.1 1 d0.2).2)).1).toNat)) ++ ((rText d0.1 16 ((rNum d0.1 ((d1.length : Nat) : Int) ((rNum d0.1 1 d0.2).2)).2)).1)) : Nat) : Int) = ((rNum d0.1 ((d1.length : Nat) : Int) ((rNum d0.1 1 d0.2).2)).1)) := by first | rfl | (unfold rOp; simp [*])
      refine ⟨[Value.bool (decide (((rNum d0.1 1 d0.2).1) = 1)), str ((d1.take (((rNum d0.1 ((d1.length : Nat) : Int) ((rNum d0.1 1 d0.2).2)).1).toNat)) ++ ((rText d0.1 16 ((rNum d0.1 ((d1.length : Nat) : Int) ((rNum d0.1 1 d0.2).2)).2)).1)), str ([])], ?_, ?_, ?_, ?_⟩
      rotate_left
      · rw [he0]; exact (Ow.of (m := mnil) rfl (mk_Op (m := _) (decide (((rNum d0.1 1 d0.2).1) = 1)) ((d1.take (((rNum d0.1 ((d1.length : Nat) : Int) ((rNum d0.1 1 d0.2).2)).1).toNat)) ++ ((rText d0.1 16 ((rNum d0.1 ((d1.length : Nat) : Int) ((rNum d0.1 1 d0.2).2)).2)).1)) [] bdm bdm))
      · rw [hm0_1, hm0_2, muns_one]
      · rw [hm0_1]; exact (show inK .i64 _ by simp only [inK]; (first | omega | (simp only [List.length_append, List.length_nil, List.length_cons, List.length_take, List.length_drop] at *; omega)))
      all_goals (first | rfl | (simp [*]; done))
end
section
set_option linter.unusedVariables false
set_option linter.unusedSimpArgs false
set_option maxRecDepth 4000
theorem fnOk45 : fnOk Try.prog 45 = true := by kernel_rfl
theorem fnOk76 : fnOk Try.prog 76 = true := by kernel_rfl
theorem SameCommit_ok (W : World) {v0 : List Value} {d0 : DCommit} (h0 : Rd TCommit (wm W) v0 d0) {v1 : List Value} {d1 : DCommit} (h1 : Rd TCommit (wm W) v1 d1) : CallR Try.prog 45 [.agg v0.toArray, .agg v1.toArray] W (mnil) (fun v m' => v = .bool (decide (d0 = d1))) := by
  obtain ⟨p0_A2, p0_c2, rfl, p0_0, p0_1, p0_2⟩ := open_Commit (x0 := d0.1) (x1 := d0.2.1) (x2 := d0.2.2) h0
  simp only [inK] at p0_0
  simp only [inK] at p0_1
  have p0_r2 := Rd.room p0_2
  obtain ⟨p1_A2, p1_c2, rfl, p1_0, p1_1, p1_2⟩ := open_Commit (x0 := d1.1) (x1 := d1.2.1) (x2 := d1.2.2) h1
  simp only [inK] at p1_0
  simp only [inK] at p1_1
  have p1_r2 := Rd.room p1_2
  refine CallR.ofA (n := 24) Try.func45 rfl rfl rfl ?_
  refine VC.rs ?_
  refine VO.box (cs := [Value.int .i64 (d0.1), Value.int .i64 (d0.2.1), Value.slice p0_A2 (d0.2.2.length) (p0_c2)]) 102 rfl rfl rfl (fun g1 => ?_)
  refine VO.box (cs := [Value.int .i64 (d1.1), Value.int .i64 (d1.2.1), Value.slice p1_A2 (d1.2.2.length) (p1_c2)]) 104 rfl rfl rfl (fun g3 => ?_)
  refine VO.as ?_
  refine VO.k5 0 1 2 3 4 ?_
  refine VC.rs ?_
  refine VO.y rfl (.fa rfl tst42 rfl) ?_
  refine VO.y rfl (.ld1 102 rfl tk3 rfl (cellsAt_one rfl rfl)) ?_
  refine VO.y rfl (.fa rfl tst42 rfl) ?_
  refine VO.y rfl (.ld1 104 rfl tk3 rfl (cellsAt_one rfl rfl)) ?_
  refine VO.y rfl (.eql rfl rfl) ?_
  refine VO.mv ?_
  refine VO.dec (t := 10) rfl (fun hc5 => ?_) (fun hc5 => ?_)
  · -- T
    refine VO.gy rfl ⟨_, rfl, rfl⟩ (.fa rfl tst42 rfl) ?_
    refine VO.gy rfl ⟨_, rfl, rfl⟩ (.ld1 102 rfl tk3 rfl (cellsAt_one rfl rfl)) ?_
    refine VO.gy rfl ⟨_, rfl, rfl⟩ (.fa rfl tst42 rfl) ?_
    refine VO.gy rfl ⟨_, rfl, rfl⟩ (.ld1 104 rfl tk3 rfl (cellsAt_one rfl rfl)) ?_
    refine VO.gy rfl ⟨_, rfl, rfl⟩ (.eql rfl rfl) ?_
    refine VO.y rfl (.pT rfl rfl) ?_
    refine VO.mv ?_
    refine VO.dec (t := 17) rfl (fun hc6 => ?_) (fun hc6 => ?_)
    · -- TT
      refine VO.gy rfl ⟨_, rfl, rfl⟩ (.fa rfl tst42 rfl) ?_
      refine VO.gy rfl ⟨_, rfl, rfl⟩ (.ld1 102 rfl tk40 rfl (cellsAt_one rfl rfl)) ?_
      refine VO.gy rfl ⟨_, rfl, rfl⟩ (.fa rfl tst42 rfl) ?_
      refine VO.gy rfl ⟨_, rfl, rfl⟩ (.ld1 104 rfl tk40 rfl (cellsAt_one rfl rfl)) ?_
      refine VO.gcallN 107 rfl ⟨_, rfl, rfl⟩ fnOk76 rfl (fun W hW => SameOps_ok W (Rd.mono p0_2 (hW.at (i := 0) rfl)) (Rd.mono p1_2 (hW.at (i := 0) rfl))) (fun v7 m7 hv7 => ?_)
      subst hv7
      refine VO.y rfl (.pT rfl rfl) ?_
      refine VO.as ?_
      refine VO.k5 0 1 2 3 4 ?_
      refine VC.ret ?_
      refine ⟨_, _, res_run (rs := [.tmp 4]) rfl (.tmp rfl .nil), fun W_ hI => out_of (l := []) hI [] rfl rfl (mle_refl _) (fun hS_ => ?_)⟩
      dsimp only [packV]
      all_goals (first | rfl | (first | exact congrArg Value.bool (decide_eq_false (fun e => by subst e; exact absurd rfl ‹¬ _ = _›)).symm | exact congrArg Value.bool (decide_eq_decide.2 ⟨fun h => commit_ext ‹_› ‹_› h, fun e => by rw [e]⟩)))
    · -- TF
      refine VO.gN ?_
      refine VO.gN ?_
      refine VO.gN ?_
      refine VO.gN ?_
      refine VO.gN ?_
      refine VO.y rfl (.pF rfl rfl) ?_
      refine VO.as ?_
      refine VO.k5 0 1 2 3 4 ?_
      refine VC.ret ?_
      refine ⟨_, _, res_run (rs := [.tmp 4]) rfl (.tmp rfl .nil), fun W_ hI => out_of (l := []) hI [] rfl rfl (mle_refl _) (fun hS_ => ?_)⟩
      dsimp only [packV]
      all_goals (first | rfl | (first | exact congrArg Value.bool (decide_eq_false (fun e => by subst e; exact absurd rfl ‹¬ _ = _›)).symm | exact congrArg Value.bool (decide_eq_decide.2 ⟨fun h => commit_ext ‹_› ‹_› h, fun e => by rw [e]⟩)))
  · -- F
    refine VO.gN ?_
    refine VO.gN ?_
    refine VO.gN ?_
    refine VO.gN ?_
    refine VO.gN ?_
    refine VO.y rfl (.pF rfl rfl) ?_
    refine VO.mv ?_
    refine VO.gN ?_
    refine VO.gN ?_
    refine VO.gN ?_
    refine VO.gN ?_
    refine VO.gN ?_
    refine VO.y rfl (.pF rfl rfl) ?_
    refine VO.as ?_
    refine VO.k5 0 1 2 3 4 ?_
    refine VC.ret ?_
    refine ⟨_, _, res_run (rs := [.tmp 4]) rfl (.tmp rfl .nil), fun W_ hI => out_of (l := []) hI [] rfl rfl (mle_refl _) (fun hS_ => ?_)⟩
    dsimp only [packV]
    all_goals (first | rfl | (first | exact congrArg Value.bool (decide_eq_false (fun e => by subst e; exact absurd rfl ‹¬ _ = _›)).symm | exact congrArg Value.bool (decide_eq_decide.2 ⟨fun h => commit_ext ‹_› ‹_› h, fun e => by rw [e]⟩)))
theorem SameCommits_ok (W : World) {v0 : Value} {d0 : List DCommit} (h0 : Rd (.sl TCommit) (wm W) [v0] d0) {v1 : Value} {d1 : List DCommit} (h1 : Rd (.sl TCommit) (wm W) [v1] d1) : CallR Try.prog 12 [v0, v1] W (mnil) (fun v m' => v = .bool (decide (d0 = d1))) := by
  obtain ⟨A0, c0, rfl, l0, k0⟩ := h0.slice
  simp only [maxLen] at k0
  obtain ⟨A1, c1, rfl, l1, k1⟩ := h1.slice
  simp only [maxLen] at k1
  refine CallR.ofA (n := 27) Try.func12 rfl rfl rfl ?_
  refine VC.rs ?_
  refine VO.as ?_
  refine VO.k3 0 1 4 ?_
  refine VC.seq ?_
  refine VC.rs ?_
  refine VO.mv ?_
  refine VO.y rfl (.lenS rfl tsl25) ?_
  refine VO.mv ?_
  refine VO.y rfl (.lenS rfl tsl25) ?_
  refine VO.y rfl (.neq rfl rfl) ?_
  refine VO.k4 0 1 4 10 ?_
  refine VC.cond rfl (fun hc1 => ?_) (fun hc1 => ?_)
  · -- T
    refine VC.rs ?_
    refine VO.as ?_
    refine VO.kp [0] [(0, wm W)] ?_
    refine VO.k4 0 1 4 10 ?_
    refine VC.ret ?_
    refine outR ?_
    refine ⟨_, _, res_run (rs := [.tmp 4]) rfl (.tmp rfl .nil), fun W_ hI => out_of (l := []) hI [] rfl rfl (mle_refl _) (fun hS_ => ?_)⟩
    dsimp only [packV]
    all_goals (first | rfl | (simp [len_ne hc1]))
  · -- F
    refine VC.skip ?_
    refine outN ?_
    refine VC.seq ?_
    refine VC.rs ?_
    refine VO.as ?_
    refine VO.kp [0] [(0, wm W)] ?_
    refine VO.k5 0 1 4 5 10 ?_
    refine VC.block ?_
    refine VC.loop (G := Nat) (fun k => [(5, Value.int .i64 (((k : Nat) : Int))), (0, Value.slice A0 (d0.length) (c0)), (1, Value.slice A1 (d1.length) (c1)), (10, Value.bool (decide (¬ ((d0.length : Nat) : Int) = ((d1.length : Nat) : Int))))]) (fun k => [(0, wm W)]) (fun k => (k ≤ d0.length) ∧ (d0.take k = d1.take k)) (fun k => d0.length - k) 0 (⟨by omega, by rfl⟩) ⟨⟨rfl, rfl, rfl, rfl, trivial⟩, fun _ h => h.sub [0]⟩ ?_
    rintro k ⟨hk, ht⟩
    refine VC.seq ?_
    refine VC.rs ?_
    refine VO.mv ?_
    refine VO.mv ?_
    refine VO.y rfl (.lenS rfl tsl25) ?_
    refine VO.y rfl (.lss rfl rfl) ?_
    refine VO.k5 0 1 5 10 14 ?_
    refine VC.cond rfl (fun hc2 => ?_) (fun hc2 => ?_)
    · -- FT
      refine VC.skip ?_
      refine outN ?_
      refine VC.seq ?_
      refine VC.block ?_
      refine VC.seq ?_
      refine VC.regD _ 8 [(0, true), (1, true), (2, true), (3, true), (4, true), (5, true), (6, true), (7, true)] follows (by kernel_rfl) (fun _ h => h.sub [0]) ?_
      refine VD.y rfl rfl (.inl rfl) (.mv rfl) ?_
      refine VD.y rfl rfl (.inl rfl) (.mv rfl) ?_
      obtain ⟨x3, hx3⟩ : ∃ z_, (d0)[k]? = some z_ := ⟨_, List.getElem?_eq_getElem bd⟩
      obtain ⟨gg3, oo3, ec3, ea3, hce3, hre3⟩ := h0.elem hx3
      cases ea3
      obtain ⟨q3_A2, q3_c2, rfl, q3_0, q3_1, q3_2⟩ := open_Commit (x0 := x3.1) (x1 := x3.2.1) (x2 := x3.2.2) hre3
      simp only [inK] at q3_0
      simp only [inK] at q3_1
      have q3_r2 := Rd.room q3_2
      refine VD.y rfl rfl (.inl rfl) (.ixI k rfl rfl tsl25 rfl bd) ?_
      refine VD.y rfl rfl (.inl rfl) (.ldA 0 rfl tk42 rfl hce3) ?_
      refine VD.y rfl rfl (.inl rfl) (.mv rfl) ?_
      refine VD.y rfl rfl (.inl rfl) (.mv rfl) ?_
      obtain ⟨x4, hx4⟩ : ∃ z_, (d1)[k]? = some z_ := ⟨_, List.getElem?_eq_getElem bd⟩
      obtain ⟨gg4, oo4, ec4, ea4, hce4, hre4⟩ := h1.elem hx4
      cases ea4
      obtain ⟨q4_A2, q4_c2, rfl, q4_0, q4_1, q4_2⟩ := open_Commit (x0 := x4.1) (x1 := x4.2.1) (x2 := x4.2.2) hre4
      simp only [inK] at q4_0
      simp only [inK] at q4_1
      have q4_r2 := Rd.room q4_2
      refine VD.y rfl rfl (.inl rfl) (.ixI k rfl rfl tsl25 rfl bd) ?_
      refine VD.y rfl rfl (.inl rfl) (.ldA 0 rfl tk42 rfl hce4) ?_
      refine VD.nil rfl ?_ rfl
      refine VO.callN 105 rfl fnOk45 rfl (fun W hW => SameCommit_ok W (Rd.mono hre3 (hW.at (i := 0) rfl)) (Rd.mono hre4 (hW.at (i := 0) rfl))) (fun v5 m5 hv5 => ?_)
      subst hv5
      refine VO.y rfl (.notD rfl) ?_
      refine VO.k6 0 1 5 10 14 26 ?_
      refine outN ?_
      refine VC.cond rfl (fun hc6 => ?_) (fun hc6 => ?_)
      · -- FTT
        refine VC.rs ?_
        refine VO.as ?_
        refine VO.kp [0] [(0, wm W)] ?_
        refine VO.k7 0 1 4 5 10 14 26 ?_
        refine VC.ret ?_
        refine outBR ?_
        refine outR ?_
        refine outR ?_
        refine outBR ?_
        refine outR ?_
        refine ⟨_, _, res_run (rs := [.tmp 4]) rfl (.tmp rfl .nil), fun W_ hI => out_of (l := []) hI [] rfl rfl (mle_refl _) (fun hS_ => ?_)⟩
        dsimp only [packV]
        all_goals (first | rfl | (simp [get_ne ‹d0[k]? = some _› ‹d1[k]? = some _› (‹¬ _ = _›)]))
      · -- FTF
        refine VC.skip ?_
        refine outBN ?_
        refine outN ?_
        refine VC.reg ?_
        refine VO.mv ?_
        refine VO.y rfl (.add (c := ((k + 1 : Nat) : Int)) rfl rfl (by omega) ⟨bd, bd⟩) ?_
        refine VO.as ?_
        refine VO.kp [0] [(0, wm W)] ?_
        refine VO.k6 0 1 5 10 14 26 ?_
        exact outN ⟨k + 1, ⟨by omega, by exact take_next ht ‹d0[k]? = some _› ‹d1[k]? = some _› (Decidable.not_not.1 ‹¬ ¬ _ = _›)⟩, bd, ⟨⟨rfl, rfl, rfl, rfl, trivial⟩, fun _ h => Inv.sub h [0]⟩⟩
    · -- FF
      refine VC.exit ?_
      refine outE ?_
      refine outE ?_
      refine outBB ?_
      refine outN ?_
      refine VC.rs ?_
      refine VO.as ?_
      refine VO.k6 0 1 4 5 10 14 ?_
      refine VC.ret ?_
      refine ⟨_, _, res_run (rs := [.tmp 4]) rfl (.tmp rfl .nil), fun W_ hI => out_of (l := []) hI [] rfl rfl (mle_refl _) (fun hS_ => ?_)⟩
      dsimp only [packV]
      all_goals (first | rfl | (simp [take_all ht (by omega) (by omega)]))
end
section
set_option linter.unusedVariables false
def sGo (en : Int) : Int → Int → Nat → List DStart → Prop
  | _, _, _, [] => True
  | le, lf, i, s :: r => le < s.1 ∧ s.1 ≤ 1048576 ∧ lf < s.2 ∧ s.2 ≤ en ∧ (i = 0 → s.2 = 1) ∧ sGo en s.1 s.2 (i + 1) r
instance decGo (en : Int) : ∀ (le lf : Int) (i : Nat) (l : List DStart), Decidable (sGo en le lf i l)
  | _, _, _, [] => isTrue trivial
  | le, lf, i, s :: r => by
    have := decGo en s.1 s.2 (i + 1) r
    unfold sGo; infer_instance
def sCheck (l : List DStart) (en : Int) : Int := if 0 ≤ en ∧ en ≤ 1048576 ∧ ((l.length : Int) = 0 ↔ en = 0) ∧ sGo en 0 0 0 l then 0 else 5
def bareM (m : DMessage) : Prop := m.2.2.1 = 0 ∧ m.2.2.2.1 = 0 ∧ m.2.2.2.2.1.length = 0 ∧ m.2.2.2.2.2.1 = 0 ∧ m.2.2.2.2.2.2.1 = 0 ∧ m.2.2.2.2.2.2.2.length = 0
instance (m : DMessage) : Decidable (bareM m) := by unfold bareM; infer_instance
def lastOk (l : List DStart) (e : Int) : Bool := match l.getLast? with
  | some s => decide (s.1 ≤ e)
  | none => true
def helloM (m : DMessage) : Prop := (1 ≤ m.2.2.1 ∧ m.2.2.1 ≤ 3) ∧ sCheck m.2.2.2.2.1 m.2.2.2.1 = 0 ∧ lastOk m.2.2.2.2.1 m.2.1 = true ∧ m.2.2.2.2.2.1 = 0 ∧ m.2.2.2.2.2.2.1 = 0 ∧ m.2.2.2.2.2.2.2.length = 0
instance (m : DMessage) : Decidable (helloM m) := by unfold helloM; infer_instance
def shipM (m : DMessage) : Prop := (1 ≤ m.2.2.2.2.2.1 ∧ m.2.2.2.2.2.1 ≤ 1048576) ∧ (0 ≤ m.2.2.2.2.2.2.1 ∧ m.2.2.2.2.2.2.1 ≤ m.2.1) ∧ (m.2.2.2.2.2.2.1 = 0 ↔ m.2.2.2.2.2.1 = 1) ∧ m.2.2.2.2.2.2.2.length ≤ 4 ∧
  (cFollows m.2.2.2.2.2.2.1 (m.2.2.2.2.2.1 - 1) m.2.2.2.2.2.2.2).1 = 0 ∧ (∀ c ∈ m.2.2.2.2.2.2.2, c.1 ≤ m.2.1) ∧ m.2.2.1 = 0 ∧ m.2.2.2.1 = 0 ∧ m.2.2.2.2.1.length = 0
instance (m : DMessage) : Decidable (shipM m) := by unfold shipM; infer_instance
def ackM (m : DMessage) : Prop := (0 ≤ m.2.2.2.1 ∧ m.2.2.2.1 ≤ 1048576) ∧ m.2.2.1 = 0 ∧ m.2.2.2.2.1.length = 0 ∧ m.2.2.2.2.2.1 = 0 ∧ m.2.2.2.2.2.2.1 = 0 ∧ m.2.2.2.2.2.2.2.length = 0
instance (m : DMessage) : Decidable (ackM m) := by unfold ackM; infer_instance
end
section
set_option linter.unusedVariables false
def epochAt (l : List DCommit) (n : Int) : Int := match l[n.toNat]? with
  | some c => c.1
  | none => 0
def fitsM (l : List DCommit) (m : DMessage) : Prop := (1 < m.2.2.2.2.2.1 → epochAt l (m.2.2.2.2.2.1 - 2) = m.2.2.2.2.2.2.1) ∧ ∀ c ∈ m.2.2.2.2.2.2.2, c.2.1 ≤ l.length → epochAt l (c.2.1 - 1) = c.1
instance (l : List DCommit) (m : DMessage) : Decidable (fitsM l m) := by unfold fitsM; infer_instance
end
section
set_option linter.unusedVariables false
set_option linter.unusedSimpArgs false
set_option maxRecDepth 4000
theorem pick_ok (W : World) (d0 : Int) (h0 : inK .i64 d0) (d1 : Int) (h1 : inK .i64 d1) (e0 : 0 < d1) : CallR Try.prog 34 [.int .i64 d0, .int .i64 d1] W (mnil) (fun v m' => v = .int .i64 (pickI d0 d1)) := by
  have h0' := h0; simp only [inK] at h0'
  have h1' := h1; simp only [inK] at h1'
  refine CallR.ofA (n := 14) Try.func34 rfl rfl rfl ?_
  refine VC.rs ?_
  refine VO.as ?_
  refine VO.k3 0 1 4 ?_
  refine VC.rs ?_
  refine VO.mv ?_
  refine VO.mv ?_
  have hm1 := tmod_bounds (d0) (d1) bd
  refine VO.y rfl (.quo (.inr rfl) rfl rfl (rem_int _ _ _ bd)) ?_
  refine VO.as ?_
  refine VO.k3 0 1 4 ?_
  refine VC.seq ?_
  refine VC.rs ?_
  refine VO.mv ?_
  refine VO.y rfl (.lss rfl rfl) ?_
  refine VO.kp [0] [(0, wm W)] ?_
  refine VO.k4 0 1 4 9 ?_
  refine VC.cond rfl (fun hc2 => ?_) (fun hc2 => ?_)
  · -- T
    refine VC.reg ?_
    refine VO.mv ?_
    refine VO.mv ?_
    refine VO.y rfl (.add rfl rfl rfl ⟨bd, bd⟩) ?_
    refine VO.as ?_
    refine VO.k4 0 1 4 9 ?_
    refine outN ?_
    refine VC.rs ?_
    refine VO.mv ?_
    refine VO.as ?_
    refine VO.k4 0 1 4 9 ?_
    refine VC.ret ?_
    refine ⟨_, _, res_run (rs := [.tmp 4]) rfl (.tmp rfl .nil), fun W_ hI => out_of (l := []) hI [] rfl rfl (mle_refl _) (fun hS_ => ?_)⟩
    dsimp only [packV]
    all_goals (first | rfl | (congr 1; unfold pickI; split <;> omega))
  · -- F
    refine VC.skip ?_
    refine outN ?_
    refine VC.rs ?_
    refine VO.mv ?_
    refine VO.as ?_
    refine VO.k4 0 1 4 9 ?_
    refine VC.ret ?_
    refine ⟨_, _, res_run (rs := [.tmp 4]) rfl (.tmp rfl .nil), fun W_ hI => out_of (l := []) hI [] rfl rfl (mle_refl _) (fun hS_ => ?_)⟩
    dsimp only [packV]
    all_goals (first | rfl | (congr 1; unfold pickI; split <;> omega))
end
section
set_option linter.unusedVariables false
theorem follows_cons {e n i : Int} {c : DCommit} {r : List DCommit} (h : (cFollowsAt e n i (c :: r)).1 = 0) : cCheck c = 0 ∧ c.2.1 = n + 1 ∧ e ≤ c.1 ∧ (cFollowsAt c.1 c.2.1 (i + 1) r).1 = 0 := by
  unfold cFollowsAt at h
  split at h
  · exact absurd h (by assumption)
  · rename_i h1
    split at h
    · cases h
    · exact ⟨Decidable.not_not.1 h1, by omega, by omega, h⟩
theorem follows_mk {e n i : Int} {c : DCommit} {r : List DCommit} (h1 : cCheck c = 0) (h2 : c.2.1 = n + 1) (h3 : e ≤ c.1) (h4 : (cFollowsAt c.1 c.2.1 (i + 1) r).1 = 0) : (cFollowsAt e n i (c :: r)).1 = 0 := by
  unfold cFollowsAt
  rw [if_neg (by omega), if_neg (by omega)]
  exact h4
theorem follows_idx : ∀ {l : List DCommit} {e n i : Int} (j : Int), (cFollowsAt e n i l).1 = 0 → (cFollowsAt e n j l).1 = 0
  | [], _, _, _, _, _ => rfl
  | c :: r, e, n, i, j, h => by
    obtain ⟨h1, h2, h3, h4⟩ := follows_cons h
    exact follows_mk h1 h2 h3 (follows_idx (j + 1) h4)
end
section
set_option linter.unusedVariables false
def lastOr (e : Int) (l : List DCommit) : Int := match l.getLast? with
  | some c => c.1
  | none => e
theorem lastOr_cons (e : Int) (c : DCommit) (r : List DCommit) : lastOr e (c :: r) = lastOr c.1 r := by
  cases r with
  | nil => rfl
  | cons d r => unfold lastOr; rw [List.getLast?_cons_cons]; cases h : (d :: r).getLast? with
    | none => simp at h
    | some x => rfl
theorem follows_app : ∀ {l a : List DCommit} {e n i j : Int}, (cFollowsAt e n i l).1 = 0 → (cFollowsAt (lastOr e l) (n + l.length) j a).1 = 0 → (cFollowsAt e n i (l ++ a)).1 = 0
  | [], a, e, n, i, j, _, h => by
    simp only [lastOr, List.getLast?_nil, List.length_nil] at h
    exact follows_idx i (by simpa using h)
  | c :: r, a, e, n, i, j, h, h' => by
    obtain ⟨h1, h2, h3, h4⟩ := follows_cons h
    rw [lastOr_cons] at h'
    refine follows_mk h1 h2 h3 (follows_app (j := j) h4 ?_)
    rwa [show c.2.1 + (r.length : Int) = n + ((c :: r).length : Nat) by simp only [List.length_cons]; omega]
theorem follows_app_left : ∀ {l a : List DCommit} {e n i : Int}, (cFollowsAt e n i (l ++ a)).1 = 0 → (cFollowsAt e n i l).1 = 0
  | [], _, _, _, _, _ => rfl
  | c :: r, a, e, n, i, h => by
    obtain ⟨h1, h2, h3, h4⟩ := follows_cons h
    exact follows_mk h1 h2 h3 (follows_app_left h4)
theorem follows_app_right : ∀ {l a : List DCommit} {e n i : Int} (j : Int), (cFollowsAt e n i (l ++ a)).1 = 0 → (cFollowsAt (lastOr e l) (n + l.length) j a).1 = 0
  | [], a, e, n, i, j, h => by
    simp only [lastOr, List.getLast?_nil, List.length_nil]
    simpa using follows_idx j (show (cFollowsAt e n i a).1 = 0 from h)
  | c :: r, a, e, n, i, j, h => by
    obtain ⟨h1, h2, h3, h4⟩ := follows_cons h
    have := follows_app_right j h4
    rw [lastOr_cons]
    rwa [show c.2.1 + (r.length : Int) = n + ((c :: r).length : Nat) by simp only [List.length_cons]; omega] at this
end
section
set_option linter.unusedVariables false
set_option linter.unusedSimpArgs false
set_option maxRecDepth 4000
theorem fnOk60 : fnOk Try.prog 60 = true := by kernel_rfl
theorem fnOk77 : fnOk Try.prog 77 = true := by kernel_rfl
theorem CopyCommit_ok (W : World) {v0 : List Value} {d0 : DCommit} (h0 : Rd TCommit (wm W) v0 d0) (e0 : d0.2.2.length ≤ 3518437208800) : CallR Try.prog 60 [.agg v0.toArray] W (mnil) (fun v m' => ∃ (s0 : List Value), v = .agg s0.toArray ∧ Ow TCommit m' s0 (d0)) := by
  obtain ⟨p0_A2, p0_c2, rfl, p0_0, p0_1, p0_2⟩ := open_Commit (x0 := d0.1) (x1 := d0.2.1) (x2 := d0.2.2) h0
  simp only [inK] at p0_0
  simp only [inK] at p0_1
  have p0_r2 := Rd.room p0_2
  refine CallR.ofA (n := 11) Try.func60 rfl rfl rfl ?_
  refine VC.rs ?_
  refine VO.box (cs := [Value.int .i64 (d0.1), Value.int .i64 (d0.2.1), Value.slice p0_A2 (d0.2.2.length) (p0_c2)]) 102 rfl rfl rfl (fun g1 => ?_)
  refine VO.alloc 104 rfl tz42 (fun g3 => ?_)
  refine VO.k3 0 1 2 ?_
  refine VC.seq ?_
  refine VC.regD _ 7 [(0, true), (1, true), (2, true), (3, true), (4, true), (5, true), (6, false)] follows (by kernel_rfl) (fun _ h => h.sub [104, 102, 0]) ?_
  refine VD.y rfl rfl (.inl rfl) (.fa rfl tst42 rfl) ?_
  refine VD.y rfl rfl (.inl rfl) (.ld1 102 rfl tk3 rfl (cellsAt_one rfl rfl)) ?_
  refine VD.y rfl rfl (.inl rfl) (.fa rfl tst42 rfl) ?_
  refine VD.y rfl rfl (.inl rfl) (.ld1 102 rfl tk3 rfl (cellsAt_one rfl rfl)) ?_
  refine VD.y rfl rfl (.inl rfl) (.fa rfl tst42 rfl) ?_
  refine VD.y rfl rfl (.inl rfl) (.ld1 102 rfl tk40 rfl (cellsAt_one rfl rfl)) ?_
  refine VD.callN 105 rfl rfl (.inl rfl) fnOk77 rfl (fun _ h => h.sub [104, 102, 0]) (fun W hW => CopyOps_ok W (Rd.mono p0_2 (hW.at (i := 0) rfl)) bd) (fun v5 m5 hv5 => ?_)
  obtain ⟨s5_0, rfl, f5_0⟩ := hv5
  obtain ⟨A5_0, c5_0, eq5_0, l5_0, k5_0⟩ := f5_0.slice
  subst eq5_0
  simp only [maxLen] at k5_0
  refine VD.nil rfl ?_ rfl
  refine VO.y rfl (.bst (cs := [Value.int .i64 (d0.1), Value.int .i64 (d0.2.1), Value.slice A5_0 (d0.2.2.length) (c5_0)]) rfl tst42 tz42 rfl) ?_
  refine VO.store (k := 3) (c' := [Value.int .i64 (d0.1), Value.int .i64 (d0.2.1), Value.slice A5_0 (d0.2.2.length) (c5_0)]) 104 rfl rfl (.inl tk42) rfl rfl rfl rfl rfl ?_
  refine VO.k3 0 1 2 ?_
  refine outN ?_
  refine VC.ret ?_
  refine ⟨_, _, res_run (rs := [.cell 2 42]) rfl (.agg 104 rfl tk42 rfl ⟨_, _, _, mone_self _ _, Nat.le_of_ble_eq_true rfl, rfl⟩ .nil), fun W_ hI => out_of (l := [m5]) hI [105] rfl rfl (mle_refl _) (fun hS_ => ?_)⟩
  dsimp only [packV]
  have he0 : (d0 : Ty.Den TCommit) = d0 := by first | rfl | (simp [*]; done)
  refine ⟨[Value.int .i64 (d0.1), Value.int .i64 (d0.2.1), Value.slice A5_0 (d0.2.2.length) (c5_0)], ?_, ?_⟩
  rotate_left
  · rw [he0]; exact (show Ow TCommit _ _ d0 from (mkO_Commit d0.1 d0.2.1 d0.2.2 hS_ bdk bdk (OwnL.ow (Ow.ownl f5_0 rfl mnil) rfl)))
  all_goals (first | rfl | (simp [*]; done))
theorem fin0_CopyCommits_ok {P : Prop} (h : P := by first | omega | (simp only [List.length_append, List.length_nil, List.length_cons, List.length_take, List.length_drop] at *; omega) | exact e1 _ (List.mem_of_getElem? ‹d0[_]? = some _›)) : P := h
theorem CopyCommits_ok (W : World) {v0 : Value} {d0 : List DCommit} (h0 : Rd (.sl TCommit) (wm W) [v0] d0) (e0 : d0.length ≤ 3518437200000) (e1 : ∀ c ∈ d0, c.2.2.length ≤ 3518437208800) : CallR Try.prog 25 [v0] W (mnil) (fun v m' => ∃ (s0 : Value), v = s0 ∧ Ow (.sl TCommit) m' [s0] (d0)) := by
  obtain ⟨A0, c0, rfl, l0, k0⟩ := h0.slice
  simp only [maxLen] at k0
  refine CallR.ofA (n := 20) Try.func25 rfl rfl rfl ?_
  refine VC.rs ?_
  refine VO.as ?_
  refine VO.k2 0 2 ?_
  refine VC.rs ?_
  refine VO.as ?_
  refine VO.k3 0 2 3 ?_
  refine VC.seq ?_
  refine VC.rs ?_
  refine VO.as ?_
  refine VO.kp [0] [(0, wm W)] ?_
  refine VO.k4 0 2 3 4 ?_
  refine VC.block ?_
  refine VC.inv ((101, mnil) :: _) (fun _ h => h.nilc 101) ?_
  refine VC.loop (G := Nat × (List DCommit) × (Option Addr) × Nat × Mem) (fun g => [(3, Value.slice (g.2.2.1) ((g.2.1).length) ((g.2.2.2.1))), (4, Value.int .i64 ((((g.1) : Nat) : Int))), (0, Value.slice A0 (d0.length) (c0)), (2, Value.slice none (0) (0))]) (fun g => [(101, (g.2.2.2.2)), (0, wm W)]) (fun g => ((g.1) ≤ d0.length) ∧ ((g.2.1) = d0.take (g.1)) ∧ (Ow (.sl TCommit) (g.2.2.2.2) [.slice (g.2.2.1) (g.2.1).length (g.2.2.2.1)] (g.2.1))) (fun g => d0.length - (g.1)) (0, [], none, 0, mnil) (⟨by omega, by rfl, (Ow.nil TCommit mnil)⟩) ⟨⟨rfl, rfl, rfl, rfl, trivial⟩, fun _ h => h.sub [101, 0]⟩ ?_
  rintro ⟨k, out, out_A, out_c, out_m⟩ ⟨hk, ho, h_out⟩
  replace hk : k ≤ d0.length := hk
  replace ho : out = d0.take k := ho
  replace h_out : Ow (.sl TCommit) out_m [.slice out_A out.length out_c] out := h_out
  show VC _ _ _ _ _ [(3, Value.slice out_A (out.length) (out_c)), (4, Value.int .i64 (((k : Nat) : Int))), (0, Value.slice A0 (d0.length) (c0)), (2, Value.slice none (0) (0))] [(101, out_m), (0, wm W)]
  have l_out : out.length ≤ out_c := by obtain ⟨_, _, he, hl, _⟩ := h_out.slice; simp only [Value.slice.injEq] at he; omega
  have k_out : out_c ≤ 9223372036854775807 := by obtain ⟨_, _, he, _, hl⟩ := h_out.slice; simp only [Value.slice.injEq, maxLen] at he hl; omega
  have hlo : out.length ≤ k := by rw [ho]; simp; omega
  refine VC.seq ?_
  refine VC.rs ?_
  refine VO.mv ?_
  refine VO.mv ?_
  refine VO.y rfl (.lenS rfl tsl25) ?_
  refine VO.y rfl (.lss rfl rfl) ?_
  refine VO.k5 0 2 3 4 8 ?_
  refine VC.cond rfl (fun hc2 => ?_) (fun hc2 => ?_)
  · -- T
    refine VC.skip ?_
    refine outN ?_
    refine VC.seq ?_
    refine VC.block ?_
    refine VC.reg ?_
    refine VO.mv ?_
    refine VO.mv ?_
    refine VO.mv ?_
    obtain ⟨x3, hx3⟩ : ∃ z_, (d0)[k]? = some z_ := ⟨_, List.getElem?_eq_getElem (by exact fin0_CopyCommits_ok)⟩
    obtain ⟨gg3, oo3, ec3, ea3, hce3, hre3⟩ := h0.elem hx3
    cases ea3
    obtain ⟨q3_A2, q3_c2, rfl, q3_0, q3_1, q3_2⟩ := open_Commit (x0 := x3.1) (x1 := x3.2.1) (x2 := x3.2.2) hre3
    simp only [inK] at q3_0
    simp only [inK] at q3_1
    have q3_r2 := Rd.room q3_2
    refine VO.y rfl (.ixI k rfl rfl tsl25 rfl (by exact fin0_CopyCommits_ok)) ?_
    refine VO.y rfl (.ldA 0 rfl tk42 rfl hce3) ?_
    refine VO.callN 104 rfl fnOk60 rfl (fun W hW => CopyCommit_ok W (Rd.mono hre3 (hW.at (i := 0) rfl)) (by exact fin0_CopyCommits_ok)) (fun v4 m4 hv4 => ?_)
    obtain ⟨s4_0, rfl, f4_0⟩ := hv4
    obtain ⟨q4_0_A2, q4_0_c2, q4_0_n2, rfl, q4_0_S, q4_0_0, q4_0_1, q4_0_2⟩ := openO_Commit (x0 := x3.1) (x1 := x3.2.1) (x2 := x3.2.2) f4_0
    simp only [inK] at q4_0_0
    simp only [inK] at q4_0_1
    have q4_0_r2 := q4_0_2.rm
    refine VO.inv _ (fun _ h => h.parts (i := 104) rfl q4_0_S [105]) ?_
    refine VO.bsl (cs := [Value.int .i64 (x3.1), Value.int .i64 (x3.2.1), Value.slice q4_0_A2 (x3.2.2.length) (q4_0_c2)]) 107 rfl rfl tsl25 tz42 rfl rfl (fun g6 => ?_)
    refine VO.appO (e := TCommit) 101 105 107 rfl rfl rfl tsl25 tz42 rfl rfl rfl rfl h_out (show Ow TCommit _ _ x3 from (mkO_Commit x3.1 x3.2.1 x3.2.2 (Seps.one (mle_refl _)) (by simp only [inK]; (exact fin0_CopyCommits_ok)) (by simp only [inK]; (exact fin0_CopyCommits_ok)) (OwnL.ow (Ow.ownl q4_0_2 rfl mnil) rfl))) Try.underlying25 (cellsAt_one rfl rfl) (by simp only [maxLen]; (exact fin0_CopyCommits_ok)) (by exact fin0_CopyCommits_ok) (by decide) (fun v8 m8 ho8 => ?_)
    obtain ⟨A8, c8, rfl, l8, k8⟩ := ho8.slice
    simp only [maxLen] at k8
    refine VO.as ?_
    refine VO.k5 0 2 3 4 8 ?_
    refine outBN ?_
    refine outN ?_
    refine VC.reg ?_
    refine VO.mv ?_
    refine VO.y rfl (.add (c := ((k + 1 : Nat) : Int)) rfl rfl (by omega) ⟨by exact fin0_CopyCommits_ok, by exact fin0_CopyCommits_ok⟩) ?_
    refine VO.as ?_
    refine VO.kp [101, 0] [(101, m8), (0, wm W)] ?_
    refine VO.k5 0 2 3 4 8 ?_
    exact outN ⟨⟨k + 1, out ++ [x3], A8, c8, m8⟩, ⟨by omega, by rw [ho]; exact (take_one ‹_›).symm, ho8⟩, by exact fin0_CopyCommits_ok, ⟨⟨rfl, rfl, rfl, rfl, trivial⟩, fun _ h => Inv.sub h [101, 0]⟩⟩
  · -- F
    refine VC.exit ?_
    refine outE ?_
    refine outE ?_
    refine outBB ?_
    refine outN ?_
    refine VC.rs ?_
    refine VO.mv ?_
    refine VO.as ?_
    refine VO.k5 0 2 3 4 8 ?_
    refine VC.ret ?_
    refine ⟨_, _, res_run (rs := [.tmp 2]) rfl (.tmp rfl .nil), fun W_ hI => out_of (l := [out_m]) hI [101] rfl rfl (mle_refl _) (fun hS_ => ?_)⟩
    dsimp only [packV]
    have he0 : (d0 : Ty.Den (.sl TCommit)) = out := by first | rfl | (rw [ho, List.take_of_length_le (by omega)])
    refine ⟨Value.slice out_A (out.length) (out_c), ?_, ?_⟩
    rotate_left
    · rw [he0]; exact (Ow.up h_out (hS_.1 _ (.head _)))
    all_goals (first | rfl | (simp [*]; done))
end
section
set_option linter.unusedVariables false
theorem vgo_back : ∀ {b : Bytes} {i x y n : Nat}, x < 2 ^ (7 * i) → i ≤ 9 → vgo i x b = some (y, n) → ∃ v, y = x + v * 2 ^ (7 * i) ∧ b = venc v ++ b.drop (n - i) ∧ n = i + (venc v).length ∧ (1 ≤ v ∨ i = 0)
  | [], _, _, _, _, _, _, h => by cases h
  | c :: r, i, x, y, n, hx, hi, h => by
    unfold vgo at h
    split at h
    · cases h
    · rename_i h0
      obtain ⟨t1, t2, t3⟩ := top_add hx hi h0
      have hc := c.toNat_lt
      split at h
      · rename_i h1
        obtain ⟨v, e1, e2, e3, e4⟩ := vgo_back (t3 (by omega)) (by omega) h
        have hv : 1 ≤ v := by omega
        have hd : venc (c.toNat % 128 + 128 * v) = c :: venc v := by
          rw [venc, dif_neg (by omega), show (c.toNat % 128 + 128 * v) / 128 = v by omega, show (c.toNat % 128 + 128 * v) % 128 + 128 = c.toNat by omega]
          simp
        refine ⟨c.toNat % 128 + 128 * v, ?_, ?_, ?_, .inl (by omega)⟩
        · rw [e1, pow_next, Nat.add_mul, Nat.add_assoc, Nat.mul_left_comm, Nat.mul_assoc]
        · rw [hd, show n - i = (n - (i + 1)) + 1 by omega, List.drop_succ_cons, List.cons_append, ← e2]
        · rw [hd, e3, List.length_cons]; omega
      · rename_i h1
        split at h
        · cases h
        · rename_i h2
          simp only [Option.some.injEq, Prod.mk.injEq] at h
          obtain ⟨rfl, rfl⟩ := h
          have hd : venc c.toNat = [c] := by rw [venc, dif_pos (by omega)]; simp
          have hm : c.toNat % 128 = c.toNat := Nat.mod_eq_of_lt (by omega)
          refine ⟨c.toNat, by rw [hm], by rw [hd, show i + 1 - i = 1 by omega]; rfl, by rw [hd]; rfl, by omega⟩
theorem vread_back {b : Bytes} {x n : Nat} (h : vread b = some (x, n)) : b = venc x ++ b.drop n ∧ n = (venc x).length := by
  obtain ⟨v, e1, e2, e3, _⟩ := vgo_back (by decide) (by decide) h
  have : x = v := by simpa using e1
  subst this
  exact ⟨by simpa using e2, by omega⟩
theorem vgo_there : ∀ (v : Nat) {i x : Nat} (r : Bytes), x < 2 ^ (7 * i) → i ≤ 9 → x + v * 2 ^ (7 * i) < 18446744073709551616 → (1 ≤ v ∨ i = 0) → vgo i x (venc v ++ r) = some (x + v * 2 ^ (7 * i), i + (venc v).length) := by
  intro v
  induction v using Nat.strongRecOn with
  | ind v ih =>
    intro i x r hx hi hlt h1
    have h9 : i = 9 → v ≤ 1 := by
      intro h
      subst h
      have : (2 : Nat) ^ (7 * 9) = 9223372036854775808 := by decide
      rw [this] at hlt
      omega
    by_cases hv : v < 128
    · rw [venc, dif_pos hv]
      have ec : (UInt8.ofNat v).toNat = v := by simp; omega
      have h0 : ¬ (i = 9 ∧ (UInt8.ofNat v).toNat > 1) := by rw [ec]; omega
      obtain ⟨t1, t2, t3⟩ := top_add hx hi h0
      show (if _ then _ else _) = _
      rw [if_neg h0, if_neg (by rw [ec]; omega), if_neg (by rw [ec]; omega), ec, Nat.mod_eq_of_lt hv]
      rfl
    · rw [venc, dif_neg hv]
      have ec : (UInt8.ofNat (v % 128 + 128)).toNat = v % 128 + 128 := by simp; omega
      have h0 : ¬ (i = 9 ∧ (UInt8.ofNat (v % 128 + 128)).toNat > 1) := by rw [ec]; omega
      obtain ⟨t1, t2, t3⟩ := top_add hx hi h0
      have e : x + (v % 128 + 128) % 128 * 2 ^ (7 * i) + v / 128 * 2 ^ (7 * (i + 1)) = x + v * 2 ^ (7 * i) := by
        rw [pow_next, ← Nat.mul_assoc, Nat.add_assoc, ← Nat.add_mul]
        congr 2
        omega
      show (if _ then _ else _) = _
      rw [if_neg h0, if_pos (by rw [ec]; omega)]
      show vgo _ _ (venc (v / 128) ++ r) = _
      rw [ih (v / 128) (by omega) r (t3 (by omega)) (by omega) (by rw [ec, e]; exact hlt) (by omega), ec, e, List.length_cons]
      congr 2
      omega
theorem vread_there {x : Nat} (h : x < 18446744073709551616) (r : Bytes) : vread (venc x ++ r) = some (x, (venc x).length) := by
  have := vgo_there x (i := 0) (x := 0) r (by decide) (by decide) (by simpa using h) (.inr rfl)
  rw [Nat.mul_zero, Nat.pow_zero, Nat.mul_one, Nat.zero_add, Nat.zero_add] at this
  exact this
theorem drop_past {B e r : Bytes} {a : Nat} (h : B.drop a = e ++ r) : B.drop (a + e.length) = r := by
  rw [← List.drop_drop, h]; simp
theorem drop_len {B e r : Bytes} {a : Nat} (h : B.drop a = e ++ r) : B.length - a = e.length + r.length := by
  rw [← List.length_drop, h, List.length_append]
theorem shared_take : ∀ (a b : Bytes), a.take (shared a b) = b.take (shared a b)
  | [], b => by rw [shared_nil_left]; rfl
  | a, [] => by rw [shared_nil_right]; rfl
  | x :: a, y :: b => by
    unfold shared
    split
    · rename_i h; rw [List.take_succ_cons, List.take_succ_cons, h, shared_take a b]
    · rfl
theorem drop_le {B e r : Bytes} {a : Nat} (h : B.drop a = e ++ r) (ha : a ≤ B.length) : a + e.length ≤ B.length := by have := drop_len h; omega
section
variable {B last : Bytes} {m : Int} {s e : RS} {x : Int} {t : Bytes}
theorem num_back (hs : rOk B s) (hm : m ≤ 9223372036854775807) (h : rNum B m s = (x, e)) (he : e.2 = false) : s.2 = false ∧ 0 ≤ x ∧ (x ≤ m) ∧ rOk B e ∧ B.drop s.1.toNat = venc x.toNat ++ B.drop e.1.toNat := by
  have hok := rNum_ok (m := m) hs hm
  rw [h] at hok
  by_cases h0 : s.2 = true
  · rw [rNum_bad h0] at h
    cases h
    rw [h0] at he; cases he
  · have h0 : s.2 = false := by simpa using h0
    by_cases h1 : sE (B.drop s.1.toNat) m = 0
    · rw [rNum_some h0 h1] at h
      have hb := s_bounds (B.drop s.1.toNat) m hm
      cases h
      unfold sE sX sN vsmall at *
      cases hv : vread (B.drop s.1.toNat) with
      | none => rw [hv] at h1; cases h1
      | some p =>
        obtain ⟨y, n⟩ := p
        rw [hv] at h1 hb hok
        dsimp only at h1 hb hok ⊢
        by_cases hy : (y : Int) ≤ m
        · rw [if_pos hy] at hok ⊢
          dsimp only at hok ⊢
          obtain ⟨e1, e2⟩ := vread_back hv
          refine ⟨h0, by omega, hy, hok.1, ?_⟩
          rw [show (s.1 + (n : Int)).toNat = s.1.toNat + n by have := hs.1; omega, ← List.drop_drop]
          exact e1
        · rw [if_neg hy] at h1; cases h1
    · rw [rNum_none h0 h1] at h
      cases h
      cases he
theorem num_there {a : Nat} {x : Nat} {r : Bytes} (h : B.drop a = venc x ++ r) (hx : (x : Int) ≤ m) (hm : m ≤ 9223372036854775807) : rNum B m ((a : Int), false) = ((x : Int), (((a + (venc x).length : Nat) : Int), false)) := by
  have hv := vread_there (x := x) (by omega) r
  rw [← h] at hv
  have hs : vsmall (B.drop a) m = some (x, (venc x).length) := by unfold vsmall; rw [hv]; exact if_pos hx
  have h1 : sE (B.drop a) m = 0 := by unfold sE; rw [hs]
  rw [rNum_some rfl (by simpa using h1)]
  unfold sX sN
  simp only [Int.toNat_natCast]
  rw [hs]
  simp
theorem bytes_back {n : Int} (hs : rOk B s) (hn : 0 ≤ n) (h : rBytes B n s = (t, e)) (he : e.2 = false) : s.2 = false ∧ (t.length : Int) = n ∧ rOk B e ∧ B.drop s.1.toNat = t ++ B.drop e.1.toNat := by
  obtain ⟨q1, q2⟩ := hs
  by_cases hb : s.2 = true ∨ (B.length : Int) - s.1 < n
  · rw [rBytes_bad hb] at h
    cases h
    cases he
  · have h0 : s.2 = false := by
      cases hc : s.2 with
      | false => rfl
      | true => exact absurd (.inl hc) hb
    rw [rBytes_good h0 (fun hq => hb (.inr hq))] at h
    have hlt : ¬ (B.length : Int) - s.1 < n := fun hq => hb (.inr hq)
    cases h
    refine ⟨h0, by simp only [List.length_take, List.length_drop]; omega, ⟨by simp only; omega, by simp only; omega⟩, ?_⟩
    rw [show (s.1 + n).toNat = s.1.toNat + n.toNat by omega, ← List.drop_drop, List.take_append_drop]
theorem bytes_there {a : Nat} {r : Bytes} (h : B.drop a = t ++ r) (ha : a ≤ B.length) : rBytes B t.length ((a : Int), false) = (t, (((a + t.length : Nat) : Int), false)) := by
  have hl := drop_len h
  rw [rBytes_good rfl (by simp only; omega)]
  simp only [Int.toNat_natCast]
  rw [h]; simp
theorem text_back (hs : rOk B s) (hm : m ≤ 9223372036854775807) (h : rText B m s = (t, e)) (he : e.2 = false) : s.2 = false ∧ (t.length : Int) ≤ m ∧ rOk B e ∧ B.drop s.1.toNat = venc t.length ++ (t ++ B.drop e.1.toNat) := by
  unfold rText at h
  have hk := rNum_ok (m := m) hs hm
  generalize hn : rNum B m s = p at *
  obtain ⟨x, s1⟩ := p
  dsimp only at h hk
  obtain ⟨h1, h2, h3, h4⟩ := bytes_back hk.1 hk.2.1 h he
  obtain ⟨k1, k2, k3, k4, k5⟩ := num_back hs hm hn h1
  refine ⟨k1, by omega, h3, ?_⟩
  rw [k5, h4, show x.toNat = t.length by omega]
theorem text_there {a : Nat} {r : Bytes} (h : B.drop a = venc t.length ++ (t ++ r)) (ha : a ≤ B.length) (hx : (t.length : Int) ≤ m) (hm : m ≤ 9223372036854775807) : rText B m ((a : Int), false) = (t, (((a + ((venc t.length).length + t.length) : Nat) : Int), false)) := by
  unfold rText
  have hl := drop_len h
  rw [num_there h hx hm]
  dsimp only
  rw [bytes_there (drop_past h) (by omega), Nat.add_assoc]
theorem op_back {o : DOp} (hs : rOk B s) (hl : last.length ≤ 9223372036854775000) (h : rOp B last s = (o, e)) (he : e.2 = false) : s.2 = false ∧ rOk B e ∧ B.drop s.1.toNat = encOp last o ++ B.drop e.1.toNat := by
  unfold rOp at h
  have a1 := rNum_ok (m := 1) hs (by omega)
  generalize ha : rNum B 1 s = a at *
  obtain ⟨pa, sa⟩ := a
  dsimp only at h a1
  have b1 := rNum_ok (m := (last.length : Int)) a1.1 (by omega)
  generalize hb : rNum B last.length sa = b at *
  obtain ⟨pb, sb⟩ := b
  dsimp only at h b1
  have t1 := rText_ok (m := 16) b1.1 (by omega) (by omega)
  generalize ht : rText B 16 sb = tt at *
  obtain ⟨pt, st⟩ := tt
  dsimp only at h t1
  have key : ∀ (st' : RS), st' = (st.1, st.2 || decide (¬ (shared last (last.take pb.toNat ++ pt) : Int) = pb)) → st'.2 = false → s.2 = false ∧ rOk B st' ∧ B.drop s.1.toNat = venc pa.toNat ++ (venc (shared last (last.take pb.toNat ++ pt)) ++ (venc ((last.take pb.toNat ++ pt).length - shared last (last.take pb.toNat ++ pt)) ++ ((last.take pb.toNat ++ pt).drop (shared last (last.take pb.toNat ++ pt)) ++ B.drop st'.1.toNat))) := by
    intro st' hst hf
    subst hst
    simp only [Bool.or_eq_false_iff, decide_eq_false_iff_not, Decidable.not_not] at hf
    obtain ⟨f1, f2⟩ := hf
    obtain ⟨u1, u2, u3, u4⟩ := text_back b1.1 (by omega) ht f1
    obtain ⟨v1, v2, v3, v4, v5⟩ := num_back a1.1 (by omega) hb u1
    obtain ⟨w1, w2, w3, w4, w5⟩ := num_back hs (by omega) ha v1
    refine ⟨w1, ⟨u3.1, u3.2⟩, ?_⟩
    have hlen : (last.take pb.toNat).length = pb.toNat := by simp; omega
    have hsh : shared last (last.take pb.toNat ++ pt) = pb.toNat := by omega
    rw [hsh, w5, v5, u4]
    congr 2
    rw [List.length_append, hlen, show pb.toNat + pt.length - pb.toNat = pt.length by omega]
    congr 1
    rw [List.drop_append, hlen, Nat.sub_self, List.drop_zero, List.drop_of_length_le (Nat.le_of_eq hlen)]
    simp
  by_cases hp : pa = 1
  · rw [if_pos hp] at h
    generalize hv : rText B 32 (st.1, st.2 || decide (¬ (shared last (last.take pb.toNat ++ pt) : Int) = pb)) = vv at *
    obtain ⟨pv, sv⟩ := vv
    cases h
    have hok : rOk B (st.1, st.2 || decide (¬ (shared last (last.take pb.toNat ++ pt) : Int) = pb)) := ⟨t1.1.1, t1.1.2⟩
    obtain ⟨x1, x2, x3, x4⟩ := text_back hok (by omega) hv he
    obtain ⟨y1, y2, y3⟩ := key _ rfl x1
    refine ⟨y1, x3, ?_⟩
    rw [y3, hp, x4, enc_put rfl]
    simp [venc_last]
  · rw [if_neg hp] at h
    cases h
    obtain ⟨y1, y2, y3⟩ := key _ rfl he
    refine ⟨y1, y2, ?_⟩
    rw [show pa = 0 by omega] at y3
    rw [y3, enc_del rfl]
    simp [venc_last]
theorem op_there {a : Nat} {o : DOp} {r : Bytes} (h : B.drop a = encOp last o ++ r) (ha : a ≤ B.length) (ho : opOk o) (hl : last.length ≤ 9223372036854775000) : rOp B last ((a : Int), false) = (o, (((a + (encOp last o).length : Nat) : Int), false)) := by
  obtain ⟨o1, o2, o3, o4⟩ := ho
  have hsl := shared_le last o.2.1
  have hkey : last.take (shared last o.2.1) ++ o.2.1.drop (shared last o.2.1) = o.2.1 := by rw [shared_take last o.2.1, List.take_append_drop]
  obtain ⟨p, k, v⟩ := o
  dsimp only at *
  have e16 : k.length - shared last k = (k.drop (shared last k)).length := by simp
  have hen : encOp last (p, k, v) = venc (if p = true then 1 else 0) ++ (venc (shared last k) ++ (venc (k.drop (shared last k)).length ++ (k.drop (shared last k) ++ (if p = true then venc v.length ++ v else [])))) := by
    unfold encOp
    dsimp only
    rw [← e16]
    cases p <;> simp [venc_last]
  rw [hen] at h ⊢
  have hL := drop_le h ha
  rw [List.append_assoc] at h
  have n1 := num_there (B := B) (m := 1) h (by split <;> omega) (by omega)
  have h2 := drop_past h
  have l2 := drop_le h ha
  rw [List.append_assoc] at h2
  have n2 := num_there (B := B) (m := last.length) h2 (by omega) (by omega)
  have h3 := drop_past h2
  have l3 := drop_le h2 l2
  rw [List.append_assoc, List.append_assoc] at h3
  have n3 := text_there (B := B) (m := 16) h3 l3 (by simp only [List.length_drop]; omega) (by omega)
  have h4 := drop_past (drop_past h3)
  have l4 := drop_le (drop_past h3) (drop_le h3 l3)
  unfold rOp
  dsimp only
  rw [n1]
  dsimp only
  rw [n2]
  dsimp only
  rw [n3]
  dsimp only
  rw [Int.toNat_natCast, hkey]
  have eb : (false || decide (¬ (shared last k : Int) = (shared last k : Int))) = false := by simp
  rw [eb]
  cases p with
  | true =>
    simp only [if_true] at h4 l4 ⊢
    rw [if_pos (by rfl)]
    rw [List.append_assoc] at h4
    have n4 := text_there (B := B) (m := 32) h4 l4 (by omega) (by omega)
    rw [Nat.add_assoc] at n4
    rw [n4]
    simp only [List.length_append, Nat.add_assoc]
  | false =>
    simp only [Bool.false_eq_true, if_false]
    rw [if_neg (by decide)]
    have : v = [] := by simpa using o4
    subst this
    simp only [List.length_append, List.length_nil, Nat.add_assoc, Nat.add_zero]
end
theorem pOps_back {B : Bytes} : ∀ (n : Nat) {last : Bytes} {s e : RS} {l : List DOp}, rOk B s → last.length + 16 * n ≤ 1000000 → pOps B n last s = (l, e) → e.2 = false → s.2 = false ∧ rOk B e ∧ B.drop s.1.toNat = encOps last l ++ B.drop e.1.toNat ∧ l.length = n
  | 0, last, s, e, l, hs, hl, h, he => by
    cases h
    exact ⟨he, hs, rfl, rfl⟩
  | n + 1, last, s, e, l, hs, hl, h, he => by
    unfold pOps at h
    by_cases h0 : s.2 = true
    · rw [if_pos h0] at h
      cases h
      rw [h0] at he; cases he
    · rw [if_neg h0] at h
      have hk := rOp_ok (last := last) hs (by omega)
      generalize ho : rOp B last s = p at *
      obtain ⟨o, s1⟩ := p
      dsimp only at h hk
      generalize hr : pOps B n o.2.1 s1 = q at *
      obtain ⟨l1, e1⟩ := q
      cases h
      obtain ⟨a1, a2, a3, a4⟩ := pOps_back n hk.1 (by omega) hr he
      obtain ⟨b1, b2, b3⟩ := op_back hs (by omega) ho a1
      refine ⟨b1, a2, ?_, by simp [a4]⟩
      rw [b3, a3, encOps, List.append_assoc]
theorem pOps_there {B : Bytes} : ∀ {l : List DOp} {last : Bytes} {a : Nat} {r : Bytes}, B.drop a = encOps last l ++ r → a ≤ B.length → (∀ o ∈ l, opOk o) → last.length ≤ 16 → pOps B l.length last ((a : Int), false) = (l, (((a + (encOps last l).length : Nat) : Int), false))
  | [], last, a, r, h, ha, ho, hl => rfl
  | o :: l, last, a, r, h, ha, ho, hl => by
    rw [encOps, List.append_assoc] at h
    have h1 := op_there h ha (ho o (.head _)) (by omega)
    have h2 := pOps_there (drop_past h) (drop_le h ha) (fun o h => ho o (.tail _ h)) (ho o (.head _)).2.1
    rw [List.length_cons]
    unfold pOps
    rw [if_neg (by simp), h1]
    dsimp only
    rw [h2, encOps, List.length_append, Nat.add_assoc]
theorem bRead_back {B : Bytes} {l : List DOp} {n : Int} (h : bRead B = (l, n, 0)) : batchCheck l = 0 ∧ 0 ≤ n ∧ n ≤ B.length ∧ B = batchEnc l ++ B.drop n.toNat := by
  have h0 : rOk B (0, false) := ⟨Int.le_refl _, by simp⟩
  have hk := rNum_ok (m := 8) h0 (by omega)
  unfold bRead at h
  generalize hn : rNum B 8 (0, false) = p at *
  obtain ⟨k, s⟩ := p
  dsimp only at h hk
  generalize hr : pOps B k.toNat [] s = q at *
  obtain ⟨l1, e⟩ := q
  dsimp only at h
  by_cases hb : e.2 = true ∨ ¬ batchCheck l1 = 0
  · rw [if_pos hb] at h
    simp at h
  · rw [if_neg hb] at h
    have he : e.2 = false := by
      cases hc : e.2 with
      | false => rfl
      | true => exact absurd (.inl hc) hb
    have hc : batchCheck l1 = 0 := Decidable.byContradiction fun hq => hb (.inr hq)
    cases h
    obtain ⟨a1, a2, a3, a4⟩ := pOps_back _ hk.1 (by have := hk.2.2.2.1 (by omega); simp; omega) hr he
    obtain ⟨b1, b2, b3, b4, b5⟩ := num_back h0 (by omega) hn a1
    refine ⟨hc, a2.1, a2.2, ?_⟩
    have e0 : B = B.drop ((0 : Int), false).1.toNat := rfl
    rw [batchEnc, a4, List.append_assoc, ← a3, ← b5]; rfl
theorem bRead_there {l : List DOp} (h : batchCheck l = 0) (r : Bytes) : bRead (batchEnc l ++ r) = (l, ((batchEnc l).length : Int), 0) := by
  have hl := batch_len h
  have h1 : (batchEnc l ++ r).drop 0 = venc l.length ++ (encOps [] l ++ r) := by rw [batchEnc, List.append_assoc]; rfl
  have n1 := num_there (m := 8) h1 (by omega) (by omega)
  have n2 := pOps_there (drop_past h1) (drop_le h1 (Nat.zero_le _)) (fun o ho => batchCheck_mem h ho) (Nat.zero_le _)
  unfold bRead
  rw [show ((0 : Int), false) = (((0 : Nat) : Int), false) from rfl, n1]
  dsimp only
  rw [Int.toNat_natCast, n2]
  dsimp only
  rw [if_neg (by rw [h]; decide)]
  simp [batchEnc]
theorem bRead_cases (B : Bytes) : (bRead B).2.2 = 0 ∨ bRead B = ([], 0, 5) := by
  unfold bRead
  dsimp only
  split
  · exact .inr rfl
  · exact .inl rfl
theorem bRead_fits (B : Bytes) : (bRead B).1.length ≤ 8 ∧ 0 ≤ (bRead B).2.1 ∧ (bRead B).2.1 ≤ B.length ∧ ((bRead B).2.2 = 0 ∨ (bRead B).2.2 = 5) := by
  rcases bRead_cases B with h0 | h0
  · generalize hp : bRead B = p at *
    obtain ⟨m, n, f⟩ := p
    dsimp only at h0
    subst h0
    obtain ⟨a1, a2, a3, a4⟩ := bRead_back hp
    exact ⟨(batch_len a1).2, a2, a3, .inl rfl⟩
  · rw [h0]; exact ⟨by decide, by decide, by simp, .inr rfl⟩
theorem encOps_len : ∀ {l : List DOp} {last : Bytes}, (∀ o ∈ l, opOk o) → (encOps last l).length ≤ 79 * l.length
  | [], _, _ => by simp [encOps]
  | o :: l, last, h => by
    have h1 := encOp_len (last := last) (h o (.head _))
    have h2 := encOps_len (l := l) (last := o.2.1) (fun o h' => h o (.tail _ h'))
    rw [encOps, List.length_append, List.length_cons]; omega
theorem batchEnc_len {l : List DOp} (h : batchCheck l = 0) : (batchEnc l).length ≤ 642 := by
  have h1 := encOps_len (last := []) (fun o ho => batchCheck_mem h ho)
  have h2 := (batch_len h).2
  have h3 := venc_len (x := l.length) (by omega)
  unfold batchEnc; rw [List.length_append]; omega
theorem bAppend_len (b : Bytes) (l : List DOp) : (bAppend b l).1.length ≤ b.length + 642 := by
  unfold bAppend
  split
  · rename_i h; have := batchEnc_len h; simp; omega
  · simp
end
section
set_option linter.unusedVariables false
set_option linter.unusedSimpArgs false
set_option maxRecDepth 4000
theorem fnOk82 : fnOk Try.prog 82 = true := by kernel_rfl
theorem fnOk97 : fnOk Try.prog 97 = true := by kernel_rfl
theorem tz132 : tz Try.prog 132 = some [.slice none 0 0, .int .i64 0, .bool false] := by kernel_rfl
theorem fin0_bRead_ok {P : Prop} (h : P := by have hf := ops_end hp (by first | exact .inl (by omega) | exact .inr (by assumption)); first | (rw [bRead_bad (Prod.ext hf.1 hf.2) (by first | exact .inl (by assumption) | exact .inr (by assumption))] <;> rfl) | (rw [bRead_good (Prod.ext hf.1 hf.2) (by assumption) (by omega)] <;> rfl)) : P := h
theorem bRead_ok (W : World) {v0 : Value} {d0 : List UInt8} (h0 : Rd (.sl .byte) (wm W) [v0] d0) : CallR Try.prog 87 [v0] W (mnil) (fun v m' => ∃ (s0 : Value), v = .tuple #[s0, .int .i64 ((bRead d0).2.1), .int .i64 ((bRead d0).2.2)] ∧ Ow (.sl TOp) m' [s0] ((bRead d0).1)) := by
  obtain ⟨A0, c0, rfl, l0, k0⟩ := h0.slice
  simp only [maxLen] at k0
  refine CallR.ofA (n := 48) Try.func87 rfl rfl rfl ?_
  refine VC.rs ?_
  refine VO.as ?_
  refine VO.as ?_
  refine VO.as ?_
  refine VO.k4 0 2 3 4 ?_
  refine VC.rs ?_
  refine VO.mv ?_
  refine VO.y rfl (.bst (cs := [Value.slice A0 (d0.length) (c0), Value.int .i64 (0), Value.bool false]) rfl tst132 tz132 rfl) ?_
  refine VO.box (cs := [Value.slice A0 (d0.length) (c0), Value.int .i64 (0), Value.bool false]) 102 rfl rfl rfl (fun g1 => ?_)
  refine VO.as ?_
  refine VO.k5 0 2 3 4 5 ?_
  refine VC.rs ?_
  refine VO.as ?_
  refine VO.kp [102, 0] [(102, mone g1 (.cells [Value.slice A0 (d0.length) (c0), Value.int .i64 (0), Value.bool false].toArray 132 (0, 0))), (0, wm W)] ?_
  refine VO.k6 0 2 3 4 5 6 ?_
  refine VC.seq ?_
  refine VC.rs ?_
  refine VO.mv ?_
  refine VO.call 102 rfl fnOk96 rfl rfl (fun W hW => bNum_ok W (d0 := (d0, 0, false)) (hW.at (i := 102) rfl) (Rd.mono h0 (hW.out (i := 102) (j := 0) rfl rfl)) bdk 8 bdk (by first | assumption | exact ⟨by omega, by omega⟩ | exact ⟨by (simp; done), by (simp; done)⟩)) (fun v3 m3 hv3 => ?_)
  try dsimp only at hv3
  obtain ⟨rfl, rfl, w3_0_1⟩ := hv3
  have hfa4 := (rNum_ok (B := d0) (m := 8) (s := (0, false)) (by first | assumption | exact ⟨by omega, by omega⟩ | exact ⟨by (simp; done), by (simp; done)⟩) (by omega)).1
  have hfa5 := (rNum_ok (B := d0) (m := 8) (s := (0, false)) (by first | assumption | exact ⟨by omega, by omega⟩ | exact ⟨by (simp; done), by (simp; done)⟩) (by omega)).1.1
  have hfa6 := (rNum_ok (B := d0) (m := 8) (s := (0, false)) (by first | assumption | exact ⟨by omega, by omega⟩ | exact ⟨by (simp; done), by (simp; done)⟩) (by omega)).1.2
  have hfa7 := (rNum_ok (B := d0) (m := 8) (s := (0, false)) (by first | assumption | exact ⟨by omega, by omega⟩ | exact ⟨by (simp; done), by (simp; done)⟩) (by omega)).2
  simp only [inK] at w3_0_1
  refine VO.as ?_
  refine VO.k7 0 2 3 4 5 6 7 ?_
  refine VC.block ?_
  refine VC.inv ((108, mnil) :: _) (fun _ h => h.nilc 108) ?_
  refine VC.loop (G := Int × (List UInt8) × (List DOp) × (Option Addr) × Nat × Mem × Int × Bool) (fun g => [(2, Value.slice (g.2.2.2.1) ((g.2.2.1).length) ((g.2.2.2.2.1))), (6, str ((g.2.1))), (7, Value.int .i64 ((g.1))), (0, Value.slice A0 (d0.length) (c0)), (3, Value.int .i64 (0)), (4, Value.int .i64 (0)), (5, Value.pointer (some ⟨g1, 0, none⟩))]) (fun g => [(108, (g.2.2.2.2.2.1)), (102, mone g1 (.cells [Value.slice A0 (d0.length) (c0), Value.int .i64 ((g.2.2.2.2.2.2.1)), Value.bool (g.2.2.2.2.2.2.2)].toArray 132 (0, 0))), (0, wm W)]) (fun g => (pOps d0 (rNum d0 8 (0, false)).1.toNat [] (rNum d0 8 (0, false)).2 = ((g.2.2.1) ++ (pOps d0 (g.1).toNat (g.2.1) ((g.2.2.2.2.2.2.1), (g.2.2.2.2.2.2.2))).1, (pOps d0 (g.1).toNat (g.2.1) ((g.2.2.2.2.2.2.1), (g.2.2.2.2.2.2.2))).2)) ∧ (rOk d0 ((g.2.2.2.2.2.2.1), (g.2.2.2.2.2.2.2))) ∧ ((g.1) ≤ 8) ∧ ((g.2.2.1).length + (g.1).toNat ≤ 8) ∧ ((g.2.1).length + 16 * (g.1).toNat ≤ 128) ∧ (OwnL TOp (g.2.2.2.2.2.1) mnil (.slice (g.2.2.2.1) (g.2.2.1).length (g.2.2.2.2.1)) (g.2.2.1))) (fun g => (g.1).toNat) ((rNum d0 8 (0, false)).1, [], [], none, 0, mnil, (rNum d0 8 (0, false)).2.1, (rNum d0 8 (0, false)).2.2) (⟨by rfl, by assumption, by omega, by (simp; omega), by (simp; omega), (OwnL.nil TOp mnil mnil)⟩) ⟨⟨rfl, rfl, rfl, rfl, rfl, rfl, rfl, trivial⟩, fun _ h => h.sub [108, 102, 0]⟩ ?_
  rintro ⟨k, last, l, l_A, l_c, l_m, at_, bad⟩ ⟨hp, hok, hk, hlen, hla, h_l⟩
  replace hp : pOps d0 (rNum d0 8 (0, false)).1.toNat [] (rNum d0 8 (0, false)).2 = (l ++ (pOps d0 k.toNat last (at_, bad)).1, (pOps d0 k.toNat last (at_, bad)).2) := hp
  replace hok : rOk d0 (at_, bad) := hok
  replace hk : k ≤ 8 := hk
  replace hlen : l.length + k.toNat ≤ 8 := hlen
  replace hla : last.length + 16 * k.toNat ≤ 128 := hla
  replace h_l : OwnL TOp l_m mnil (.slice l_A l.length l_c) l := h_l
  show VC _ _ _ _ _ [(2, Value.slice l_A (l.length) (l_c)), (6, str (last)), (7, Value.int .i64 (k)), (0, Value.slice A0 (d0.length) (c0)), (3, Value.int .i64 (0)), (4, Value.int .i64 (0)), (5, Value.pointer (some ⟨g1, 0, none⟩))] [(108, l_m), (102, mone g1 (.cells [Value.slice A0 (d0.length) (c0), Value.int .i64 (at_), Value.bool bad].toArray 132 (0, 0))), (0, wm W)]
  have l_l : l.length ≤ l_c := by obtain ⟨_, _, he, hl, _⟩ := h_l.slice; simp only [Value.slice.injEq] at he; omega
  have k_l : l_c ≤ 9223372036854775807 := by obtain ⟨_, _, he, _, hl⟩ := h_l.slice; simp only [Value.slice.injEq, maxLen] at he hl; omega
  obtain ⟨hoka, hokb⟩ := (show 0 ≤ at_ ∧ at_ ≤ d0.length from hok)
  refine VC.seq ?_
  refine VC.rs ?_
  refine VO.mv ?_
  refine VO.y rfl (.gtr rfl rfl) ?_
  refine VO.mv ?_
  refine VO.dec (t := 16) rfl (fun hc9 => ?_) (fun hc9 => ?_)
  · -- T
    refine VO.gy rfl ⟨_, rfl, rfl⟩ (.mv rfl) ?_
    refine VO.gy rfl ⟨_, rfl, rfl⟩ (.nilp rfl) ?_
    refine VO.gy rfl ⟨_, rfl, rfl⟩ (.fa rfl tst132 rfl) ?_
    refine VO.gy rfl ⟨_, rfl, rfl⟩ (.ld1 102 rfl tk4 rfl (cellsAt_one rfl rfl)) ?_
    refine VO.gy rfl ⟨_, rfl, rfl⟩ (.not rfl) ?_
    refine VO.y rfl (.pT rfl rfl) ?_
    refine VO.k8 0 2 3 4 5 6 7 22 ?_
    refine VC.condBN rfl (fun hc10 => ?_) (fun hc10 => ?_)
    · -- TT
      refine VC.skip ?_
      refine outN ?_
      refine VC.seq ?_
      refine VC.block ?_
      refine VC.rs ?_
      refine VO.mv ?_
      refine VO.mv ?_
      refine VO.call 102 rfl fnOk97 rfl rfl (fun W hW => bOp_ok W (d0 := (d0, at_, bad)) (hW.at (i := 102) rfl) (Rd.mono h0 (hW.out (i := 102) (j := 0) rfl rfl)) bdk last bdm (by first | assumption | exact ⟨by omega, by omega⟩ | exact ⟨by (simp; done), by (simp; done)⟩) bd) (fun v11 m11 hv11 => ?_)
      try dsimp only at hv11
      obtain ⟨s11_0, rfl, f11_0, rfl, w11_0_1⟩ := hv11
      have hfa12 := (rOp_ok (B := d0) (last := last) (s := (at_, bad)) (by first | assumption | exact ⟨by omega, by omega⟩ | exact ⟨by (simp; done), by (simp; done)⟩) (by omega)).1
      have hfa13 := (rOp_ok (B := d0) (last := last) (s := (at_, bad)) (by first | assumption | exact ⟨by omega, by omega⟩ | exact ⟨by (simp; done), by (simp; done)⟩) (by omega)).1.1
      have hfa14 := (rOp_ok (B := d0) (last := last) (s := (at_, bad)) (by first | assumption | exact ⟨by omega, by omega⟩ | exact ⟨by (simp; done), by (simp; done)⟩) (by omega)).1.2
      have hfa15 := (rOp_ok (B := d0) (last := last) (s := (at_, bad)) (by first | assumption | exact ⟨by omega, by omega⟩ | exact ⟨by (simp; done), by (simp; done)⟩) (by omega)).2.1
      have hfa16 := (rOp_ok (B := d0) (last := last) (s := (at_, bad)) (by first | assumption | exact ⟨by omega, by omega⟩ | exact ⟨by (simp; done), by (simp; done)⟩) (by omega)).2.2
      simp only [inK] at w11_0_1
      obtain ⟨rfl, q11_0_1, q11_0_2⟩ := open_Op (x0 := ((rOp d0 last (at_, bad)).1).1) (x1 := ((rOp d0 last (at_, bad)).1).2.1) (x2 := ((rOp d0 last (at_, bad)).1).2.2) (f11_0.rd (mle_refl _))
      simp only [maxLen] at q11_0_1
      simp only [maxLen] at q11_0_2
      refine VO.alloc 118 rfl tz95 (fun g17 => ?_)
      refine VO.store (k := 3) (c' := [Value.bool (((rOp d0 last (at_, bad)).1).1), str (((rOp d0 last (at_, bad)).1).2.1), str (((rOp d0 last (at_, bad)).1).2.2)]) 118 rfl rfl (.inl tk95) rfl rfl rfl rfl rfl ?_
      refine VO.kp [118, 102, 108, 0] [(118, mone g17 (.cells [Value.bool (((rOp d0 last (at_, bad)).1).1), str (((rOp d0 last (at_, bad)).1).2.1), str (((rOp d0 last (at_, bad)).1).2.2)].toArray 95 (0, 0))), (102, mone g1 (.cells [Value.slice A0 (d0.length) (c0), Value.int .i64 ((rOp d0 last (at_, bad)).2.1), Value.bool ((rOp d0 last (at_, bad)).2.2)].toArray 132 (0, 0))), (108, l_m), (0, wm W)] ?_
      refine VO.k9 0 2 3 4 5 6 7 8 22 ?_
      refine VC.rs ?_
      refine VO.mv ?_
      refine VO.y rfl (.ldA 118 rfl tk95 rfl (cellsAt_one rfl rfl)) ?_
      refine VO.bsl (cs := [Value.bool (((rOp d0 last (at_, bad)).1).1), str (((rOp d0 last (at_, bad)).1).2.1), str (((rOp d0 last (at_, bad)).1).2.2)]) 120 rfl rfl tsl40 tz95 rfl rfl (fun g19 => ?_)
      obtain ⟨mo21, cs21, hM21, hA21, hC21⟩ := h_l
      refine VO.app 108 rfl rfl rfl tsl40 tz95 rfl rfl hM21 hA21 (.row 120 _ _ _ 1 1 _ _ Try.underlying40 rfl (cellsAt_one rfl rfl)) (by simp [Value.oneCell']) bdm bd (by decide) (fun v21 m21 hN21 => ?_)
      have ho21 : OwnL TOp m21 mnil v21 (l ++ [((rOp d0 last (at_, bad)).1)]) := OwnL.one hC21 hN21 (show Rd TOp _ _ ((rOp d0 last (at_, bad)).1) from (mk_Op (m := _) (((rOp d0 last (at_, bad)).1).1) (((rOp d0 last (at_, bad)).1).2.1) (((rOp d0 last (at_, bad)).1).2.2) bdm bdm))
      obtain ⟨A21, c21, rfl, l21, k21⟩ := ho21.slice
      simp only [maxLen] at k21
      refine VO.as ?_
      refine VO.k9 0 2 3 4 5 6 7 8 22 ?_
      refine VC.reg ?_
      refine VO.y rfl (.fa rfl tst95 rfl) ?_
      refine VO.y rfl (.ld1 118 rfl tk9 rfl (cellsAt_one rfl rfl)) ?_
      refine VO.as ?_
      refine VO.k9 0 2 3 4 5 6 7 8 22 ?_
      refine outBN ?_
      refine outN ?_
      refine VC.reg ?_
      refine VO.mv ?_
      refine VO.y rfl (.sub rfl rfl rfl ⟨bd, bd⟩) ?_
      refine VO.as ?_
      refine VO.kp [118, 102, 108, 0] [(118, mone g17 (.cells [Value.bool (((rOp d0 last (at_, bad)).1).1), str (((rOp d0 last (at_, bad)).1).2.1), str (((rOp d0 last (at_, bad)).1).2.2)].toArray 95 (0, 0))), (102, mone g1 (.cells [Value.slice A0 (d0.length) (c0), Value.int .i64 ((rOp d0 last (at_, bad)).2.1), Value.bool ((rOp d0 last (at_, bad)).2.2)].toArray 132 (0, 0))), (108, m21), (0, wm W)] ?_
      refine VO.k9 0 2 3 4 5 6 7 8 22 ?_
      exact outN ⟨⟨k - 1, ((rOp d0 last (at_, bad)).1).2.1, l ++ [((rOp d0 last (at_, bad)).1)], A21, c21, m21, (rOp d0 last (at_, bad)).2.1, (rOp d0 last (at_, bad)).2.2⟩, ⟨by exact ops_step hp (by omega) (by assumption), by assumption, by omega, by (simp only [List.length_append, List.length_cons, List.length_nil]; omega), by dsimp only; omega, ho21⟩, bd, ⟨⟨rfl, rfl, rfl, rfl, rfl, rfl, rfl, trivial⟩, fun _ h => Inv.sub h [108, 102, 0]⟩⟩
    · -- TF
      refine VC.exit ?_
      refine outE ?_
      refine outE ?_
      refine outBB ?_
      refine outN ?_
      refine VC.seq ?_
      refine VC.rs ?_
      refine VO.mv ?_
      refine VO.y rfl (.nilp rfl) ?_
      refine VO.y rfl (.fa rfl tst132 rfl) ?_
      refine VO.y rfl (.ld1 102 rfl tk4 rfl (cellsAt_one rfl rfl)) ?_
      refine VO.mv ?_
      refine VO.known (t := 38) true rfl hc10 ?_
      refine VO.gN ?_
      refine VO.gN ?_
      refine VO.gN ?_
      refine VO.y rfl (.pT rfl rfl) ?_
      refine VO.kp [108, 102, 0] [(108, l_m), (102, mone g1 (.cells [Value.slice A0 (d0.length) (c0), Value.int .i64 (at_), Value.bool bad].toArray 132 (0, 0))), (0, wm W)] ?_
      refine VO.k9 0 2 3 4 5 6 7 22 42 ?_
      refine VC.condT rfl ?_
      refine VC.rs ?_
      refine VO.as ?_
      refine VO.as ?_
      refine VO.as ?_
      refine VO.k9 0 2 3 4 5 6 7 22 42 ?_
      refine VC.ret ?_
      refine outR ?_
      refine ⟨_, _, res_run (rs := [.tmp 2, .tmp 3, .tmp 4]) rfl (.tmp rfl (.tmp rfl (.tmp rfl .nil))), fun W_ hI => out_of (l := []) hI [] rfl rfl (mle_refl _) (fun hS_ => ?_)⟩
      dsimp only [packV]
      have he0 : ((bRead d0).1 : Ty.Den (.sl TOp)) = [] := by first | rfl | (exact fin0_bRead_ok)
      refine ⟨Value.slice none (0) (0), ?_, ?_⟩
      rotate_left
      · rw [he0]; exact (Ow.nil _ _)
      all_goals (first | rfl | (exact fin0_bRead_ok))
  · -- F
    refine VO.gN ?_
    refine VO.gN ?_
    refine VO.gN ?_
    refine VO.gN ?_
    refine VO.gN ?_
    refine VO.y rfl (.pF rfl rfl) ?_
    refine VO.k8 0 2 3 4 5 6 7 22 ?_
    refine VC.condF rfl ?_
    refine VC.exit ?_
    refine outE ?_
    refine outE ?_
    refine outBB ?_
    refine outN ?_
    refine VC.seq ?_
    refine VC.rs ?_
    refine VO.mv ?_
    refine VO.y rfl (.nilp rfl) ?_
    refine VO.y rfl (.fa rfl tst132 rfl) ?_
    refine VO.y rfl (.ld1 102 rfl tk4 rfl (cellsAt_one rfl rfl)) ?_
    refine VO.mv ?_
    refine VO.decB (t := 38) rfl (fun hc22 => ?_) (fun hc22 => ?_)
    · -- FT
      refine VO.gN ?_
      refine VO.gN ?_
      refine VO.gN ?_
      refine VO.y rfl (.pT rfl rfl) ?_
      refine VO.kp [108, 102, 0] [(108, l_m), (102, mone g1 (.cells [Value.slice A0 (d0.length) (c0), Value.int .i64 (at_), Value.bool bad].toArray 132 (0, 0))), (0, wm W)] ?_
      refine VO.k9 0 2 3 4 5 6 7 22 42 ?_
      refine VC.condT rfl ?_
      refine VC.rs ?_
      refine VO.as ?_
      refine VO.as ?_
      refine VO.as ?_
      refine VO.k9 0 2 3 4 5 6 7 22 42 ?_
      refine VC.ret ?_
      refine outR ?_
      refine ⟨_, _, res_run (rs := [.tmp 2, .tmp 3, .tmp 4]) rfl (.tmp rfl (.tmp rfl (.tmp rfl .nil))), fun W_ hI => out_of (l := []) hI [] rfl rfl (mle_refl _) (fun hS_ => ?_)⟩
      dsimp only [packV]
      have he0 : ((bRead d0).1 : Ty.Den (.sl TOp)) = [] := by first | rfl | (exact fin0_bRead_ok)
      refine ⟨Value.slice none (0) (0), ?_, ?_⟩
      rotate_left
      · rw [he0]; exact (Ow.nil _ _)
      all_goals (first | rfl | (exact fin0_bRead_ok))
    · -- FF
      refine VO.gy rfl ⟨_, rfl, rfl⟩ (.mv rfl) ?_
      refine VO.gcallN 123 rfl ⟨_, rfl, rfl⟩ fnOk93 rfl (fun W hW => bCheck_ok W (OwnL.rd h_l (hW.at (i := 108) rfl) (mle_nil _))) (fun v23 m23 hv23 => ?_)
      subst hv23
      have hfa24 := batchCheck_range l
      refine VO.gy rfl ⟨_, rfl, rfl⟩ (.neq rfl rfl) ?_
      refine VO.y rfl (.pF rfl rfl) ?_
      refine VO.kp [108, 102, 0] [(108, l_m), (102, mone g1 (.cells [Value.slice A0 (d0.length) (c0), Value.int .i64 (at_), Value.bool bad].toArray 132 (0, 0))), (0, wm W)] ?_
      refine VO.k9 0 2 3 4 5 6 7 22 42 ?_
      refine VC.cond rfl (fun hc25 => ?_) (fun hc25 => ?_)
      · -- FFT
        refine VC.rs ?_
        refine VO.as ?_
        refine VO.as ?_
        refine VO.as ?_
        refine VO.k9 0 2 3 4 5 6 7 22 42 ?_
        refine VC.ret ?_
        refine outR ?_
        refine ⟨_, _, res_run (rs := [.tmp 2, .tmp 3, .tmp 4]) rfl (.tmp rfl (.tmp rfl (.tmp rfl .nil))), fun W_ hI => out_of (l := []) hI [] rfl rfl (mle_refl _) (fun hS_ => ?_)⟩
        dsimp only [packV]
        have he0 : ((bRead d0).1 : Ty.Den (.sl TOp)) = [] := by first | rfl | (exact fin0_bRead_ok)
        refine ⟨Value.slice none (0) (0), ?_, ?_⟩
        rotate_left
        · rw [he0]; exact (Ow.nil _ _)
        all_goals (first | rfl | (exact fin0_bRead_ok))
      · -- FFF
        refine VC.skip ?_
        refine outN ?_
        refine VC.seq ?_
        refine VC.regD _ 6 [(0, true), (1, true), (2, true), (3, true), (4, true), (5, true)] follows (by kernel_rfl) (fun _ h => h.sub [108, 102, 0]) ?_
        refine VD.y rfl rfl (.inl rfl) (.mv rfl) ?_
        refine VD.y rfl rfl (.inl rfl) (.mv rfl) ?_
        refine VD.y rfl rfl (.inl rfl) (.nilp rfl) ?_
        refine VD.y rfl rfl (.inl rfl) (.fa rfl tst132 rfl) ?_
        refine VD.y rfl rfl (.inl rfl) (.ld1 102 rfl tk3 rfl (cellsAt_one rfl rfl)) ?_
        refine VD.y rfl rfl (.inl rfl) (.as rfl) ?_
        refine VD.nil rfl ?_ rfl
        refine VO.as ?_
        refine VO.as ?_
        refine VO.k9 0 2 3 4 5 6 7 22 42 ?_
        refine outN ?_
        refine VC.ret ?_
        refine ⟨_, _, res_run (rs := [.tmp 2, .tmp 3, .tmp 4]) rfl (.tmp rfl (.tmp rfl (.tmp rfl .nil))), fun W_ hI => out_of (l := [l_m]) hI [108] rfl rfl (mle_refl _) (fun hS_ => ?_)⟩
        dsimp only [packV]
        have he0 : ((bRead d0).1 : Ty.Den (.sl TOp)) = l := by first | rfl | (exact fin0_bRead_ok)
        refine ⟨Value.slice l_A (l.length) (l_c), ?_, ?_⟩
        rotate_left
        · rw [he0]; exact (Ow.up (OwnL.ow h_l rfl) (hS_.1 _ (.head _)))
        all_goals (first | rfl | (exact fin0_bRead_ok))
theorem fin0_bAppend_ok {P : Prop} (h : P := by first | omega | (have ho_ := batchCheck_mem (by omega : batchCheck d1 = 0) (List.mem_of_getElem? ‹d1[k]? = some _›); have := ho_.2.1; have := ho_.2.2.1; have := encOp_len (last := last) ho_; have := (batch_len (by omega : batchCheck d1 = 0)).2; omega) | (have ho_ := batchCheck_mem (by omega : batchCheck d1 = 0) (List.mem_of_getElem? ‹d1[k]? = some _›); have := ho_.2.1; have := ho_.2.2.1; have := (batch_len (by omega : batchCheck d1 = 0)).2; simp only [List.length_append, List.length_nil, List.length_cons, List.length_take, List.length_drop] at *; omega)) : P := h
theorem bAppend_ok (W : World) {v0 : Value} {d0 : List UInt8} (h0 : Rd (.sl .byte) (wm W) [v0] d0) {v1 : Value} {d1 : List DOp} (h1 : Rd (.sl TOp) (wm W) [v1] d1) (e0 : d0.length ≤ 140737488352000) : CallR Try.prog 81 [v0, v1] W (mnil) (fun v m' => ∃ (s0 : Value), v = .tuple #[s0, .int .i64 ((bAppend d0 d1).2)] ∧ Ow (.sl .byte) m' [s0] ((bAppend d0 d1).1)) := by
  obtain ⟨A0, c0, rfl, l0, k0⟩ := h0.slice
  simp only [maxLen] at k0
  obtain ⟨A1, c1, rfl, l1, k1⟩ := h1.slice
  simp only [maxLen] at k1
  refine CallR.ofA (n := 70) Try.func81 rfl rfl rfl ?_
  refine VC.rs ?_
  refine VO.as ?_
  refine VO.as ?_
  refine VO.k4 0 1 4 5 ?_
  refine VC.seq ?_
  refine VC.rs ?_
  refine VO.mv ?_
  refine VO.callN 101 rfl fnOk93 rfl (fun W hW => bCheck_ok W (Rd.mono h1 (hW.at (i := 0) rfl))) (fun v1 m1 hv1 => ?_)
  subst hv1
  have hfa2 := batchCheck_range d1
  refine VO.as ?_
  refine VO.k5 0 1 4 5 6 ?_
  refine VC.rs ?_
  refine VO.mv ?_
  refine VO.y rfl (.neq rfl rfl) ?_
  refine VO.kp [0] [(0, wm W)] ?_
  refine VO.k6 0 1 4 5 6 16 ?_
  refine VC.cond rfl (fun hc3 => ?_) (fun hc3 => ?_)
  · -- T
    refine VC.rs ?_
    refine VO.mv ?_
    refine VO.as ?_
    refine VO.as ?_
    refine VO.k6 0 1 4 5 6 16 ?_
    refine VC.ret ?_
    refine outR ?_
    refine ⟨_, _, res_run (rs := [.tmp 4, .tmp 5]) rfl (.tmp rfl (.tmp rfl .nil)), fun W_ hI => out_of (l := []) hI [] rfl rfl (mle_refl _) (fun hS_ => ?_)⟩
    dsimp only [packV]
    have he0 : ((bAppend d0 d1).1 : Ty.Den (.sl .byte)) = [] := by first | rfl | (first | (rw [bAppend_bad ‹_›] <;> rfl) | (rw [bAppend_good (by omega)]; dsimp only; rw [← he, List.drop_of_length_le (by omega)]; simp [encOps]))
    refine ⟨Value.slice none (0) (0), ?_, ?_⟩
    rotate_left
    · rw [he0]; exact (Ow.nil _ _)
    all_goals (first | rfl | (first | (rw [bAppend_bad ‹_›] <;> rfl) | (rw [bAppend_good (by omega)] <;> rfl)))
  · -- F
    refine VC.skip ?_
    refine outN ?_
    refine VC.rs ?_
    refine VO.mv ?_
    refine VO.mv ?_
    refine VO.y rfl (.lenS rfl tsl40) ?_
    refine VO.y rfl (.cvI rfl ⟨_, Try.underlying3⟩ Try.underlying117 (IntWalk.u64_in _ (by exact fin0_bAppend_ok))) ?_
    refine VO.callN 104 rfl fnOk82 rfl (fun W hW => vAppend_ok W (Rd.mono h0 (hW.at (i := 0) rfl)) d1.length (by exact fin0_bAppend_ok) (by exact fin0_bAppend_ok)) (fun v4 m4 hv4 => ?_)
    obtain ⟨s4_0, rfl, f4_0⟩ := hv4
    have hfa5 := venc_len (x := d1.length) (by first | omega | exact or64 (by assumption) _)
    obtain ⟨A4_0, c4_0, eq4_0, l4_0, k4_0⟩ := f4_0.slice
    subst eq4_0
    simp only [maxLen] at k4_0
    refine VO.as ?_
    refine VO.k7 0 1 4 5 6 7 16 ?_
    refine VC.rs ?_
    refine VO.as ?_
    refine VO.k8 0 1 4 5 6 7 8 16 ?_
    refine VC.seq ?_
    refine VC.rs ?_
    refine VO.mv ?_
    refine VO.y rfl (.lenS rfl tsl40) ?_
    refine VO.mv ?_
    refine VO.kp [104, 0] [(104, m4), (0, wm W)] ?_
    refine VO.k11 0 1 4 5 6 7 8 16 23 24 25 ?_
    refine VC.block ?_
    refine VC.loop (G := Nat × (List UInt8) × (List UInt8) × (Option Addr) × Nat × Mem) (fun g => [(7, Value.slice (g.2.2.2.1) ((g.2.2.1).length) ((g.2.2.2.2.1))), (8, str ((g.2.1))), (25, Value.int .i64 ((((g.1) : Nat) : Int))), (0, Value.slice A0 (d0.length) (c0)), (1, Value.slice A1 (d1.length) (c1)), (4, Value.slice none (0) (0)), (5, Value.int .i64 (0)), (6, Value.int .i64 (batchCheck d1)), (16, Value.bool (decide (¬ (batchCheck d1) = 0))), (23, Value.slice A1 (d1.length) (c1)), (24, Value.int .i64 (((d1.length : Nat) : Int)))]) (fun g => [(104, (g.2.2.2.2.2)), (0, wm W)]) (fun g => ((g.1) ≤ d1.length) ∧ ((g.2.2.1) ++ encOps (g.2.1) (d1.drop (g.1)) = d0 ++ batchEnc d1) ∧ ((g.2.2.1).length ≤ d0.length + 10 + 80 * (g.1)) ∧ ((g.2.1).length ≤ 16) ∧ (OwnL .byte (g.2.2.2.2.2) mnil (.slice (g.2.2.2.1) (g.2.2.1).length (g.2.2.2.2.1)) (g.2.2.1))) (fun g => d1.length - (g.1)) (0, [], d0 ++ venc d1.length, A4_0, c4_0, m4) (⟨by omega, by (simp [batchEnc]), by (have := venc_len (x := d1.length) (by omega); simp; omega), by (simp; done), (Ow.ownl f4_0 rfl mnil)⟩) ⟨⟨rfl, rfl, rfl, rfl, rfl, rfl, rfl, rfl, rfl, rfl, rfl, trivial⟩, fun _ h => h.sub [104, 0]⟩ ?_
    rintro ⟨k, last, out, out_A, out_c, out_m⟩ ⟨hk, he, hlo, hla, h_out⟩
    replace hk : k ≤ d1.length := hk
    replace he : out ++ encOps last (d1.drop k) = d0 ++ batchEnc d1 := he
    replace hlo : out.length ≤ d0.length + 10 + 80 * k := hlo
    replace hla : last.length ≤ 16 := hla
    replace h_out : OwnL .byte out_m mnil (.slice out_A out.length out_c) out := h_out
    show VC _ _ _ _ _ [(7, Value.slice out_A (out.length) (out_c)), (8, str (last)), (25, Value.int .i64 (((k : Nat) : Int))), (0, Value.slice A0 (d0.length) (c0)), (1, Value.slice A1 (d1.length) (c1)), (4, Value.slice none (0) (0)), (5, Value.int .i64 (0)), (6, Value.int .i64 (batchCheck d1)), (16, Value.bool (decide (¬ (batchCheck d1) = 0))), (23, Value.slice A1 (d1.length) (c1)), (24, Value.int .i64 (((d1.length : Nat) : Int)))] [(104, out_m), (0, wm W)]
    have l_out : out.length ≤ out_c := by obtain ⟨_, _, he, hl, _⟩ := h_out.slice; simp only [Value.slice.injEq] at he; omega
    have k_out : out_c ≤ 9223372036854775807 := by obtain ⟨_, _, he, _, hl⟩ := h_out.slice; simp only [Value.slice.injEq, maxLen] at he hl; omega
    refine VC.rs ?_
    refine VO.y rfl (.lss rfl rfl) ?_
    refine VO.k12 0 1 4 5 6 7 8 16 23 24 25 26 ?_
    refine VC.seq ?_
    refine VC.cond rfl (fun hc6 => ?_) (fun hc6 => ?_)
    · -- FT
      refine VC.skip ?_
      refine outN ?_
      refine VC.seq ?_
      refine VC.block ?_
      refine VC.rs ?_
      obtain ⟨x7, hx7⟩ : ∃ z_, (d1)[k]? = some z_ := ⟨_, List.getElem?_eq_getElem (by exact fin0_bAppend_ok)⟩
      obtain ⟨gg7, oo7, ec7, ea7, hce7, hre7⟩ := h1.elem hx7
      cases ea7
      obtain ⟨rfl, q7_1, q7_2⟩ := open_Op (x0 := x7.1) (x1 := x7.2.1) (x2 := x7.2.2) hre7
      simp only [maxLen] at q7_1
      simp only [maxLen] at q7_2
      refine VO.y rfl (.ixI k rfl rfl tsl40 rfl (by exact fin0_bAppend_ok)) ?_
      refine VO.y rfl (.ldA 0 rfl tk95 rfl hce7) ?_
      refine VO.alloc 109 rfl tz95 (fun g8 => ?_)
      refine VO.store (k := 3) (c' := [Value.bool x7.1, str (x7.2.1), str (x7.2.2)]) 109 rfl rfl (.inl tk95) rfl rfl rfl rfl rfl ?_
      refine VO.k13 0 1 4 5 6 7 8 10 16 23 24 25 26 ?_
      refine VC.rs ?_
      refine VO.mv ?_
      refine VO.y rfl (.fa rfl tst95 rfl) ?_
      refine VO.y rfl (.ld1 109 rfl tk9 rfl (cellsAt_one rfl rfl)) ?_
      refine VO.callN 110 rfl fnOk94 rfl (fun W hW => shared_ok W last (by simp only [maxLen]; (exact fin0_bAppend_ok)) x7.2.1 (by simp only [maxLen]; (exact fin0_bAppend_ok))) (fun v10 m10 hv10 => ?_)
      subst hv10
      have hfa11 := shared_le last x7.2.1
      refine VO.as ?_
      refine VO.kp [109, 104, 0] [(109, mone g8 (.cells [Value.bool x7.1, str (x7.2.1), str (x7.2.2)].toArray 95 (0, 0))), (104, out_m), (0, wm W)] ?_
      refine VO.k14 0 1 4 5 6 7 8 10 11 16 23 24 25 26 ?_
      refine VC.rs ?_
      refine VO.as ?_
      refine VO.k15 0 1 4 5 6 7 8 10 11 12 16 23 24 25 26 ?_
      refine VC.seq ?_
      refine VC.rs ?_
      refine VO.y rfl (.fa rfl tst95 rfl) ?_
      refine VO.y rfl (.ld1 109 rfl tk4 rfl (cellsAt_one rfl rfl)) ?_
      refine VO.k16 0 1 4 5 6 7 8 10 11 12 16 23 24 25 26 34 ?_
      refine VC.condB rfl (fun hc12 => ?_) (fun hc12 => ?_)
      · -- FTT
        refine VC.reg ?_
        refine VO.as ?_
        refine VO.kp [109, 104, 0] [(109, mone g8 (.cells [Value.bool x7.1, str (x7.2.1), str (x7.2.2)].toArray 95 (0, 0))), (104, out_m), (0, wm W)] ?_
        refine VO.k16 0 1 4 5 6 7 8 10 11 12 16 23 24 25 26 34 ?_
        refine outN ?_
        refine VC.rs ?_
        refine VO.mv ?_
        refine VO.mv ?_
        refine VO.bsl (cs := [Value.int .u8 (1)]) 114 rfl rfl tsl22 tz5 rfl rfl (fun g13 => ?_)
        obtain ⟨mo15, cs15, hM15, hA15, hC15⟩ := h_out
        refine VO.app 104 rfl rfl rfl tsl22 tz5 rfl rfl hM15 hA15 (.row 114 _ _ _ 1 1 _ _ Try.underlying22 rfl (cellsAt_one rfl rfl)) (by simp [Value.oneCell']) (by simp only [maxLen]; (exact fin0_bAppend_ok)) (by exact fin0_bAppend_ok) (by decide) (fun v15 m15 hN15 => ?_)
        have ho15 : OwnL .byte m15 mnil v15 (out ++ [UInt8.ofNat 1]) := OwnL.one hC15 hN15 (rd_byteN (by exact fin0_bAppend_ok))
        obtain ⟨A15, c15, rfl, l15, k15⟩ := ho15.slice
        simp only [maxLen] at k15
        refine VO.mv ?_
        refine VO.y rfl (.cvI rfl ⟨_, Try.underlying3⟩ Try.underlying117 (IntWalk.u64_in _ (by exact fin0_bAppend_ok))) ?_
        refine VO.callN 116 rfl fnOk82 rfl (fun W hW => vAppend_ok W (OwnL.rd ho15 (hW.at (i := 104) rfl) (mle_nil _)) (shared last x7.2.1) (by exact fin0_bAppend_ok) (by exact fin0_bAppend_ok)) (fun v16 m16 hv16 => ?_)
        obtain ⟨s16_0, rfl, f16_0⟩ := hv16
        have hfa17 := venc_len (x := (shared last x7.2.1)) (by first | omega | exact or64 (by assumption) _)
        obtain ⟨A16_0, c16_0, eq16_0, l16_0, k16_0⟩ := f16_0.slice
        subst eq16_0
        simp only [maxLen] at k16_0
        refine VO.as ?_
        refine VO.k16 0 1 4 5 6 7 8 10 11 12 16 23 24 25 26 34 ?_
        refine VC.seq ?_
        refine VC.regD _ 12 [(0, true), (1, true), (2, true), (3, true), (4, true), (5, true), (6, true), (8, true), (9, true), (10, true), (11, true), (7, false)] follows (by kernel_rfl) (fun _ h => h.sub [116, 114, 109, 104, 0]) ?_
        refine VD.y rfl rfl (.inl rfl) (.mv rfl) ?_
        refine VD.y rfl rfl (.inl rfl) (.fa rfl tst95 rfl) ?_
        refine VD.y rfl rfl (.inl rfl) (.ld1 109 rfl tk9 rfl (cellsAt_one rfl rfl)) ?_
        refine VD.y rfl rfl (.inl rfl) (.lenT rfl Try.underlying9) ?_
        refine VD.y rfl rfl (.inl rfl) (.mv rfl) ?_
        refine VD.y rfl rfl (.inl rfl) (.sub rfl rfl rfl ⟨by exact fin0_bAppend_ok, by exact fin0_bAppend_ok⟩) ?_
        refine VD.y rfl rfl (.inl rfl) (.cvI (c := ((((x7.2.1.length : Nat) : Int) - ((shared last x7.2.1 : Nat) : Int)).toNat : Int)) rfl ⟨_, Try.underlying3⟩ Try.underlying117 (by rw [IntWalk.u64_in _ (by exact fin0_bAppend_ok)]; first | omega | (exact fin0_bAppend_ok))) ?_
        refine VD.y rfl rfl (.inl rfl) (.fa rfl tst95 rfl) ?_
        refine VD.y rfl rfl (.inl rfl) (.ld1 109 rfl tk9 rfl (cellsAt_one rfl rfl)) ?_
        refine VD.y rfl rfl (.inl rfl) (.mv rfl) ?_
        refine VD.y rfl rfl (.inl rfl) (.slTLI (shared last x7.2.1) rfl rfl Try.underlying9 rfl (by exact fin0_bAppend_ok)) ?_
        refine VD.callN 118 rfl rfl (.inl rfl) fnOk82 rfl (fun _ h => h.sub [116, 114, 109, 104, 0]) (fun W hW => vAppend_ok W (OwnL.rd (Ow.ownl f16_0 rfl mnil) (hW.at (i := 116) rfl) (mle_nil _)) ((((x7.2.1.length : Nat) : Int) - ((shared last x7.2.1 : Nat) : Int)).toNat) (by exact fin0_bAppend_ok) (by exact fin0_bAppend_ok)) (fun v18 m18 hv18 => ?_)
        obtain ⟨s18_0, rfl, f18_0⟩ := hv18
        have hfa19 := venc_len (x := ((((x7.2.1.length : Nat) : Int) - ((shared last x7.2.1 : Nat) : Int)).toNat)) (by first | omega | exact or64 (by assumption) _)
        obtain ⟨A18_0, c18_0, eq18_0, l18_0, k18_0⟩ := f18_0.slice
        subst eq18_0
        simp only [maxLen] at k18_0
        refine VD.nil rfl ?_ rfl
        obtain ⟨mo20, cs20, hM20, hA20, hC20⟩ := (Ow.ownl f18_0 rfl mnil)
        refine VO.app 118 rfl rfl rfl tsl22 tz5 rfl rfl hM20 hA20 (.str _ Try.underlying9 rfl) (byV_nice _) (by simp only [maxLen]; (exact fin0_bAppend_ok)) (by exact fin0_bAppend_ok) (by decide) (fun v20 m20 hN20 => ?_)
        have ho20 : OwnL .byte m20 mnil v20 ((((out ++ [UInt8.ofNat 1]) ++ venc (shared last x7.2.1)) ++ venc ((((x7.2.1.length : Nat) : Int) - ((shared last x7.2.1 : Nat) : Int)).toNat)) ++ (x7.2.1.drop (shared last x7.2.1))) := OwnL.more hC20 hN20 (rd_str _ _)
        obtain ⟨A20, c20, rfl, l20, k20⟩ := ho20.slice
        simp only [maxLen] at k20
        refine VO.as ?_
        refine VO.k16 0 1 4 5 6 7 8 10 11 12 16 23 24 25 26 34 ?_
        refine outN ?_
        refine VC.seq ?_
        refine VC.rs ?_
        refine VO.y rfl (.fa rfl tst95 rfl) ?_
        refine VO.y rfl (.ld1 109 rfl tk4 rfl (cellsAt_one rfl rfl)) ?_
        refine VO.kp [118, 109, 0] [(118, m20), (109, mone g8 (.cells [Value.bool x7.1, str (x7.2.1), str (x7.2.2)].toArray 95 (0, 0))), (0, wm W)] ?_
        refine VO.k17 0 1 4 5 6 7 8 10 11 12 16 23 24 25 26 34 56 ?_
        refine VC.condKT rfl hc12 ?_
        refine VC.regD _ 8 [(0, true), (1, true), (2, true), (3, true), (4, true), (6, true), (7, true), (5, false)] follows (by kernel_rfl) (fun _ h => h.sub [118, 109, 0]) ?_
        refine VD.y rfl rfl (.inl rfl) (.mv rfl) ?_
        refine VD.y rfl rfl (.inl rfl) (.fa rfl tst95 rfl) ?_
        refine VD.y rfl rfl (.inl rfl) (.ld1 109 rfl tk9 rfl (cellsAt_one rfl rfl)) ?_
        refine VD.y rfl rfl (.inl rfl) (.lenT rfl Try.underlying9) ?_
        refine VD.y rfl rfl (.inl rfl) (.cvI rfl ⟨_, Try.underlying3⟩ Try.underlying117 (IntWalk.u64_in _ (by exact fin0_bAppend_ok))) ?_
        refine VD.y rfl rfl (.inl rfl) (.fa rfl tst95 rfl) ?_
        refine VD.y rfl rfl (.inl rfl) (.ld1 109 rfl tk9 rfl (cellsAt_one rfl rfl)) ?_
        refine VD.callN 121 rfl rfl (.inl rfl) fnOk82 rfl (fun _ h => h.sub [118, 109, 0]) (fun W hW => vAppend_ok W (OwnL.rd ho20 (hW.at (i := 118) rfl) (mle_nil _)) x7.2.2.length (by exact fin0_bAppend_ok) (by exact fin0_bAppend_ok)) (fun v21 m21 hv21 => ?_)
        obtain ⟨s21_0, rfl, f21_0⟩ := hv21
        have hfa22 := venc_len (x := x7.2.2.length) (by first | omega | exact or64 (by assumption) _)
        obtain ⟨A21_0, c21_0, eq21_0, l21_0, k21_0⟩ := f21_0.slice
        subst eq21_0
        simp only [maxLen] at k21_0
        refine VD.nil rfl ?_ rfl
        obtain ⟨mo23, cs23, hM23, hA23, hC23⟩ := (Ow.ownl f21_0 rfl mnil)
        refine VO.app 121 rfl rfl rfl tsl22 tz5 rfl rfl hM23 hA23 (.str _ Try.underlying9 rfl) (byV_nice _) (by simp only [maxLen]; (exact fin0_bAppend_ok)) (by exact fin0_bAppend_ok) (by decide) (fun v23 m23 hN23 => ?_)
        have ho23 : OwnL .byte m23 mnil v23 ((((((out ++ [UInt8.ofNat 1]) ++ venc (shared last x7.2.1)) ++ venc ((((x7.2.1.length : Nat) : Int) - ((shared last x7.2.1 : Nat) : Int)).toNat)) ++ (x7.2.1.drop (shared last x7.2.1))) ++ venc x7.2.2.length) ++ x7.2.2) := OwnL.more hC23 hN23 (rd_str _ _)
        obtain ⟨A23, c23, rfl, l23, k23⟩ := ho23.slice
        simp only [maxLen] at k23
        refine VO.as ?_
        refine VO.k17 0 1 4 5 6 7 8 10 11 12 16 23 24 25 26 34 56 ?_
        refine outN ?_
        refine VC.reg ?_
        refine VO.y rfl (.fa rfl tst95 rfl) ?_
        refine VO.y rfl (.ld1 109 rfl tk9 rfl (cellsAt_one rfl rfl)) ?_
        refine VO.as ?_
        refine VO.k17 0 1 4 5 6 7 8 10 11 12 16 23 24 25 26 34 56 ?_
        refine outBN ?_
        refine outN ?_
        refine VC.reg ?_
        refine VO.y rfl (.add (c := ((k + 1 : Nat) : Int)) rfl rfl (by omega) ⟨by exact fin0_bAppend_ok, by exact fin0_bAppend_ok⟩) ?_
        refine VO.mv ?_
        refine VO.kp [121, 109, 0] [(121, m23), (109, mone g8 (.cells [Value.bool x7.1, str (x7.2.1), str (x7.2.2)].toArray 95 (0, 0))), (0, wm W)] ?_
        refine VO.k17 0 1 4 5 6 7 8 10 11 12 16 23 24 25 26 34 56 ?_
        exact outN ⟨⟨k + 1, x7.2.1, (((((out ++ [UInt8.ofNat 1]) ++ venc (shared last x7.2.1)) ++ venc ((((x7.2.1.length : Nat) : Int) - ((shared last x7.2.1 : Nat) : Int)).toNat)) ++ (x7.2.1.drop (shared last x7.2.1))) ++ venc x7.2.2.length) ++ x7.2.2, A23, c23, m23⟩, ⟨by omega, by exact enc_step2 he ‹d1[k]? = some _› (by first | (rw [enc_put (by assumption)]; simp only [List.append_assoc, List.cons_append, List.nil_append, List.singleton_append, Int.toNat_sub]; rfl) | (rw [enc_del (by assumption)]; simp only [List.append_assoc, List.cons_append, List.nil_append, List.singleton_append, Int.toNat_sub]; rfl)), by exact enc_len2 (last := last) hlo (by omega) ‹d1[k]? = some _› (by first | (rw [enc_put (by assumption)]; simp only [List.append_assoc, List.cons_append, List.nil_append, List.singleton_append, Int.toNat_sub]; rfl) | (rw [enc_del (by assumption)]; simp only [List.append_assoc, List.cons_append, List.nil_append, List.singleton_append, Int.toNat_sub]; rfl)), by (have ho_ := batchCheck_mem (by omega : batchCheck d1 = 0) (List.mem_of_getElem? ‹d1[k]? = some _›); have := ho_.2.1; have := ho_.2.2.1; have := encOp_len (last := last) ho_; have := (batch_len (by omega : batchCheck d1 = 0)).2; omega), ho23⟩, by exact fin0_bAppend_ok, ⟨⟨rfl, rfl, rfl, rfl, rfl, rfl, rfl, rfl, rfl, rfl, rfl, trivial⟩, fun _ h => Inv.sub (Inv.num h 121 104 rfl) [104, 0]⟩⟩
      · -- FTF
        refine VC.skip ?_
        refine outN ?_
        refine VC.rs ?_
        refine VO.mv ?_
        refine VO.mv ?_
        refine VO.bsl (cs := [Value.int .u8 (0)]) 125 rfl rfl tsl22 tz5 rfl rfl (fun g24 => ?_)
        obtain ⟨mo26, cs26, hM26, hA26, hC26⟩ := h_out
        refine VO.app 104 rfl rfl rfl tsl22 tz5 rfl rfl hM26 hA26 (.row 125 _ _ _ 1 1 _ _ Try.underlying22 rfl (cellsAt_one rfl rfl)) (by simp [Value.oneCell']) (by simp only [maxLen]; (exact fin0_bAppend_ok)) (by exact fin0_bAppend_ok) (by decide) (fun v26 m26 hN26 => ?_)
        have ho26 : OwnL .byte m26 mnil v26 (out ++ [UInt8.ofNat 0]) := OwnL.one hC26 hN26 (rd_byteN (by exact fin0_bAppend_ok))
        obtain ⟨A26, c26, rfl, l26, k26⟩ := ho26.slice
        simp only [maxLen] at k26
        refine VO.mv ?_
        refine VO.y rfl (.cvI rfl ⟨_, Try.underlying3⟩ Try.underlying117 (IntWalk.u64_in _ (by exact fin0_bAppend_ok))) ?_
        refine VO.callN 127 rfl fnOk82 rfl (fun W hW => vAppend_ok W (OwnL.rd ho26 (hW.at (i := 104) rfl) (mle_nil _)) (shared last x7.2.1) (by exact fin0_bAppend_ok) (by exact fin0_bAppend_ok)) (fun v27 m27 hv27 => ?_)
        obtain ⟨s27_0, rfl, f27_0⟩ := hv27
        have hfa28 := venc_len (x := (shared last x7.2.1)) (by first | omega | exact or64 (by assumption) _)
        obtain ⟨A27_0, c27_0, eq27_0, l27_0, k27_0⟩ := f27_0.slice
        subst eq27_0
        simp only [maxLen] at k27_0
        refine VO.as ?_
        refine VO.kp [127, 109, 0] [(127, m27), (109, mone g8 (.cells [Value.bool x7.1, str (x7.2.1), str (x7.2.2)].toArray 95 (0, 0))), (0, wm W)] ?_
        refine VO.k16 0 1 4 5 6 7 8 10 11 12 16 23 24 25 26 34 ?_
        refine VC.seq ?_
        refine VC.regD _ 12 [(0, true), (1, true), (2, true), (3, true), (4, true), (5, true), (6, true), (8, true), (9, true), (10, true), (11, true), (7, false)] follows (by kernel_rfl) (fun _ h => h.sub [127, 109, 0]) ?_
        refine VD.y rfl rfl (.inl rfl) (.mv rfl) ?_
        refine VD.y rfl rfl (.inl rfl) (.fa rfl tst95 rfl) ?_
        refine VD.y rfl rfl (.inl rfl) (.ld1 109 rfl tk9 rfl (cellsAt_one rfl rfl)) ?_
        refine VD.y rfl rfl (.inl rfl) (.lenT rfl Try.underlying9) ?_
        refine VD.y rfl rfl (.inl rfl) (.mv rfl) ?_
        refine VD.y rfl rfl (.inl rfl) (.sub rfl rfl rfl ⟨by exact fin0_bAppend_ok, by exact fin0_bAppend_ok⟩) ?_
        refine VD.y rfl rfl (.inl rfl) (.cvI (c := ((((x7.2.1.length : Nat) : Int) - ((shared last x7.2.1 : Nat) : Int)).toNat : Int)) rfl ⟨_, Try.underlying3⟩ Try.underlying117 (by rw [IntWalk.u64_in _ (by exact fin0_bAppend_ok)]; first | omega | (exact fin0_bAppend_ok))) ?_
        refine VD.y rfl rfl (.inl rfl) (.fa rfl tst95 rfl) ?_
        refine VD.y rfl rfl (.inl rfl) (.ld1 109 rfl tk9 rfl (cellsAt_one rfl rfl)) ?_
        refine VD.y rfl rfl (.inl rfl) (.mv rfl) ?_
        refine VD.y rfl rfl (.inl rfl) (.slTLI (shared last x7.2.1) rfl rfl Try.underlying9 rfl (by exact fin0_bAppend_ok)) ?_
        refine VD.callN 129 rfl rfl (.inl rfl) fnOk82 rfl (fun _ h => h.sub [127, 109, 0]) (fun W hW => vAppend_ok W (OwnL.rd (Ow.ownl f27_0 rfl mnil) (hW.at (i := 127) rfl) (mle_nil _)) ((((x7.2.1.length : Nat) : Int) - ((shared last x7.2.1 : Nat) : Int)).toNat) (by exact fin0_bAppend_ok) (by exact fin0_bAppend_ok)) (fun v29 m29 hv29 => ?_)
        obtain ⟨s29_0, rfl, f29_0⟩ := hv29
        have hfa30 := venc_len (x := ((((x7.2.1.length : Nat) : Int) - ((shared last x7.2.1 : Nat) : Int)).toNat)) (by first | omega | exact or64 (by assumption) _)
        obtain ⟨A29_0, c29_0, eq29_0, l29_0, k29_0⟩ := f29_0.slice
        subst eq29_0
        simp only [maxLen] at k29_0
        refine VD.nil rfl ?_ rfl
        obtain ⟨mo31, cs31, hM31, hA31, hC31⟩ := (Ow.ownl f29_0 rfl mnil)
        refine VO.app 129 rfl rfl rfl tsl22 tz5 rfl rfl hM31 hA31 (.str _ Try.underlying9 rfl) (byV_nice _) (by simp only [maxLen]; (exact fin0_bAppend_ok)) (by exact fin0_bAppend_ok) (by decide) (fun v31 m31 hN31 => ?_)
        have ho31 : OwnL .byte m31 mnil v31 ((((out ++ [UInt8.ofNat 0]) ++ venc (shared last x7.2.1)) ++ venc ((((x7.2.1.length : Nat) : Int) - ((shared last x7.2.1 : Nat) : Int)).toNat)) ++ (x7.2.1.drop (shared last x7.2.1))) := OwnL.more hC31 hN31 (rd_str _ _)
        obtain ⟨A31, c31, rfl, l31, k31⟩ := ho31.slice
        simp only [maxLen] at k31
        refine VO.as ?_
        refine VO.k16 0 1 4 5 6 7 8 10 11 12 16 23 24 25 26 34 ?_
        refine outN ?_
        refine VC.seq ?_
        refine VC.rs ?_
        refine VO.y rfl (.fa rfl tst95 rfl) ?_
        refine VO.y rfl (.ld1 109 rfl tk4 rfl (cellsAt_one rfl rfl)) ?_
        refine VO.k17 0 1 4 5 6 7 8 10 11 12 16 23 24 25 26 34 56 ?_
        refine VC.condKF rfl hc12 ?_
        refine VC.skip ?_
        refine outN ?_
        refine VC.reg ?_
        refine VO.y rfl (.fa rfl tst95 rfl) ?_
        refine VO.y rfl (.ld1 109 rfl tk9 rfl (cellsAt_one rfl rfl)) ?_
        refine VO.as ?_
        refine VO.kp [129, 109, 0] [(129, m31), (109, mone g8 (.cells [Value.bool x7.1, str (x7.2.1), str (x7.2.2)].toArray 95 (0, 0))), (0, wm W)] ?_
        refine VO.k17 0 1 4 5 6 7 8 10 11 12 16 23 24 25 26 34 56 ?_
        refine outBN ?_
        refine outN ?_
        refine VC.reg ?_
        refine VO.y rfl (.add (c := ((k + 1 : Nat) : Int)) rfl rfl (by omega) ⟨by exact fin0_bAppend_ok, by exact fin0_bAppend_ok⟩) ?_
        refine VO.mv ?_
        refine VO.k17 0 1 4 5 6 7 8 10 11 12 16 23 24 25 26 34 56 ?_
        exact outN ⟨⟨k + 1, x7.2.1, (((out ++ [UInt8.ofNat 0]) ++ venc (shared last x7.2.1)) ++ venc ((((x7.2.1.length : Nat) : Int) - ((shared last x7.2.1 : Nat) : Int)).toNat)) ++ (x7.2.1.drop (shared last x7.2.1)), A31, c31, m31⟩, ⟨by omega, by exact enc_step2 he ‹d1[k]? = some _› (by first | (rw [enc_put (by assumption)]; simp only [List.append_assoc, List.cons_append, List.nil_append, List.singleton_append, Int.toNat_sub]; rfl) | (rw [enc_del (by assumption)]; simp only [List.append_assoc, List.cons_append, List.nil_append, List.singleton_append, Int.toNat_sub]; rfl)), by exact enc_len2 (last := last) hlo (by omega) ‹d1[k]? = some _› (by first | (rw [enc_put (by assumption)]; simp only [List.append_assoc, List.cons_append, List.nil_append, List.singleton_append, Int.toNat_sub]; rfl) | (rw [enc_del (by assumption)]; simp only [List.append_assoc, List.cons_append, List.nil_append, List.singleton_append, Int.toNat_sub]; rfl)), by (have ho_ := batchCheck_mem (by omega : batchCheck d1 = 0) (List.mem_of_getElem? ‹d1[k]? = some _›); have := ho_.2.1; have := ho_.2.2.1; have := encOp_len (last := last) ho_; have := (batch_len (by omega : batchCheck d1 = 0)).2; omega), ho31⟩, by exact fin0_bAppend_ok, ⟨⟨rfl, rfl, rfl, rfl, rfl, rfl, rfl, rfl, rfl, rfl, rfl, trivial⟩, fun _ h => Inv.sub (Inv.num h 129 104 rfl) [104, 0]⟩⟩
    · -- FF
      refine VC.exit ?_
      refine outE ?_
      refine outE ?_
      refine outBB ?_
      refine outN ?_
      refine VC.rs ?_
      refine VO.mv ?_
      refine VO.as ?_
      refine VO.as ?_
      refine VO.k12 0 1 4 5 6 7 8 16 23 24 25 26 ?_
      refine VC.ret ?_
      refine ⟨_, _, res_run (rs := [.tmp 4, .tmp 5]) rfl (.tmp rfl (.tmp rfl .nil)), fun W_ hI => out_of (l := [out_m]) hI [104] rfl rfl (mle_refl _) (fun hS_ => ?_)⟩
      dsimp only [packV]
      have he0 : ((bAppend d0 d1).1 : Ty.Den (.sl .byte)) = out := by first | rfl | (first | (rw [bAppend_bad ‹_›] <;> rfl) | (rw [bAppend_good (by omega)]; dsimp only; rw [← he, List.drop_of_length_le (by omega)]; simp [encOps]))
      refine ⟨Value.slice out_A (out.length) (out_c), ?_, ?_⟩
      rotate_left
      · rw [he0]; exact (Ow.up (OwnL.ow h_out rfl) (hS_.1 _ (.head _)))
      all_goals (first | rfl | (first | (rw [bAppend_bad ‹_›] <;> rfl) | (rw [bAppend_good (by omega)] <;> rfl)))
end
section
set_option linter.unusedVariables false
theorem bRead_keys (B : Bytes) : ∀ o ∈ (bRead B).1, o.2.1.length ≤ 16 := by
  rcases bRead_cases B with h0 | h0
  · generalize hp : bRead B = p at *
    obtain ⟨m, n, f⟩ := p
    dsimp only at h0
    subst h0
    exact fun o ho => (batchCheck_mem (bRead_back hp).1 ho).2.1
  · rw [h0]; exact fun o ho => (by cases ho)
end
section
set_option linter.unusedVariables false
def zC : DCommit := (0, 0, [])
def cEnc (c : DCommit) : Bytes := venc c.1.toNat ++ (venc c.2.1.toNat ++ batchEnc c.2.2)
def cEncode (c : DCommit) : Bytes × Int := if cCheck c = 0 then (cEnc c, 0) else ([], cCheck c)
def cPart (B : Bytes) : DCommit := ((sX B 1048576 : Int), (sX (B.drop (sN B 1048576)) 1048576 : Int), (bRead (B.drop (sN B 1048576 + sN (B.drop (sN B 1048576)) 1048576))).1)
def cDecode (B : Bytes) : DCommit × Int :=
  if sE B 1048576 = 0 ∧ sE (B.drop (sN B 1048576)) 1048576 = 0 ∧ (bRead (B.drop (sN B 1048576 + sN (B.drop (sN B 1048576)) 1048576))).2.2 = 0 ∧
    ((sN B 1048576 : Int) + (sN (B.drop (sN B 1048576)) 1048576 : Int) + (bRead (B.drop (sN B 1048576 + sN (B.drop (sN B 1048576)) 1048576))).2.1 = B.length) ∧ cCheck (cPart B) = 0 then (cPart B, 0) else (zC, 5)
theorem s_there {x : Nat} {m : Int} (h : (x : Int) ≤ m) (hm : m ≤ 9223372036854775807) (r : Bytes) : sX (venc x ++ r) m = x ∧ sN (venc x ++ r) m = (venc x).length ∧ sE (venc x ++ r) m = 0 := by
  have hs : vsmall (venc x ++ r) m = some (x, (venc x).length) := by unfold vsmall; rw [vread_there (by omega)]; exact if_pos h
  unfold sX sN sE; rw [hs]; exact ⟨rfl, rfl, rfl⟩
theorem s_back {B : Bytes} {m : Int} (h : sE B m = 0) : B = venc (sX B m) ++ B.drop (sN B m) := by
  unfold sE sX sN vsmall at *
  cases hv : vread B with
  | none => rw [hv] at h; cases h
  | some p =>
    obtain ⟨y, n⟩ := p
    rw [hv] at h
    dsimp only at h ⊢
    by_cases hy : (y : Int) ≤ m
    · rw [if_pos hy]; exact (vread_back hv).1
    · rw [if_neg hy] at h; cases h
theorem cCheck_zero {c : DCommit} (h : cCheck c = 0) : 1 ≤ c.1 ∧ c.1 ≤ 1048576 ∧ 1 ≤ c.2.1 ∧ c.2.1 ≤ 1048576 ∧ batchCheck c.2.2 = 0 := by
  unfold cCheck at h
  split at h
  · split at h
    · exact ⟨by omega, by omega, by omega, by omega, h⟩
    · cases h
  · cases h
theorem cDecode_there {c : DCommit} (h : cCheck c = 0) : cDecode (cEnc c) = (c, 0) := by
  obtain ⟨h1, h2, h3, h4, h5⟩ := cCheck_zero h
  obtain ⟨a1, a2, a3⟩ := s_there (x := c.1.toNat) (m := 1048576) (by omega) (by omega) (venc c.2.1.toNat ++ batchEnc c.2.2)
  obtain ⟨b1, b2, b3⟩ := s_there (x := c.2.1.toNat) (m := 1048576) (by omega) (by omega) (batchEnc c.2.2)
  have r := bRead_there h5 []
  rw [List.append_nil] at r
  have hd : (cEnc c).drop (venc c.1.toNat).length = venc c.2.1.toNat ++ batchEnc c.2.2 := by rw [cEnc, List.drop_left]
  have hd2 : (cEnc c).drop ((venc c.1.toNat).length + (venc c.2.1.toNat).length) = batchEnc c.2.2 := by rw [← List.drop_drop, hd, List.drop_left]
  have hp : cPart (cEnc c) = c := by
    unfold cPart
    rw [show sX (cEnc c) 1048576 = c.1.toNat from a1, show sN (cEnc c) 1048576 = _ from a2, hd, b1, b2, hd2, r]
    exact Prod.ext (by simp only; omega) (Prod.ext (by simp only; omega) rfl)
  unfold cDecode
  rw [hp, show sE (cEnc c) 1048576 = 0 from a3, show sN (cEnc c) 1048576 = _ from a2, hd, b2, b3, hd2, r]
  rw [if_pos ⟨rfl, rfl, rfl, by simp only [cEnc, List.length_append]; omega, h⟩]
theorem cDecode_back {B : Bytes} (h : (cDecode B).2 = 0) : cCheck (cDecode B).1 = 0 ∧ B = cEnc (cDecode B).1 := by
  unfold cDecode at h ⊢
  split at h
  · rename_i hh
    rw [if_pos hh]
    obtain ⟨h1, h2, h3, h4, h5⟩ := hh
    refine ⟨h5, ?_⟩
    have e1 := s_back h1
    have e2 := s_back h2
    generalize hr : bRead (B.drop (sN B 1048576 + sN (B.drop (sN B 1048576)) 1048576)) = p at *
    obtain ⟨l, n, f⟩ := p
    dsimp only at h3 h4
    subst h3
    obtain ⟨k1, k2, k3, k4⟩ := bRead_back hr
    have hl : (B.drop (sN B 1048576 + sN (B.drop (sN B 1048576)) 1048576)).length ≤ n.toNat := by simp only [List.length_drop]; omega
    rw [List.drop_of_length_le hl, List.append_nil, ← List.drop_drop] at k4
    unfold cEnc cPart
    rw [hr]
    simp only [Int.toNat_natCast]
    rw [← k4, ← e2, ← e1]
  · cases h
theorem cEncode_bad {c : DCommit} (h : ¬ cCheck c = 0) : cEncode c = ([], cCheck c) := if_neg h
theorem cEncode_good {c : DCommit} (h : ¬ ¬ cCheck c = 0) : cEncode c = bAppend (venc c.1.toNat ++ venc c.2.1.toNat) c.2.2 := by
  have h' := Decidable.not_not.1 h
  unfold cEncode bAppend cEnc
  rw [if_pos h', if_pos (cCheck_zero h').2.2.2.2, List.append_assoc]
theorem cEncode_len (c : DCommit) : (cEncode c).1.length ≤ 700 := by
  by_cases h : cCheck c = 0
  · obtain ⟨h1, h2, h3, h4, h5⟩ := cCheck_zero h
    rw [cEncode_good (fun hn => hn h)]
    have := bAppend_len (venc c.1.toNat ++ venc c.2.1.toNat) c.2.2
    have := venc_len (x := c.1.toNat) (by omega)
    have := venc_len (x := c.2.1.toNat) (by omega)
    simp only [List.length_append] at *; omega
  · rw [cEncode_bad h]; simp
theorem cDecode_fits (B : Bytes) : (cDecode B).1.2.2.length ≤ 8 ∧ ∀ o ∈ (cDecode B).1.2.2, o.2.1.length ≤ 16 := by
  unfold cDecode
  split
  · exact ⟨(bRead_fits _).1, bRead_keys _⟩
  · exact ⟨by decide, fun o h => by cases h⟩
theorem cDecode_e1 {B : Bytes} (h : ¬ sE B 1048576 = 0) : cDecode B = (zC, 5) := if_neg fun hh => h hh.1
theorem cDecode_e2 {B : Bytes} (h : ¬ sE (B.drop (sN B 1048576)) 1048576 = 0) : cDecode B = (zC, 5) := if_neg fun hh => h hh.2.1
theorem cDecode_e3 {B : Bytes} (h : ¬ (bRead (B.drop (sN B 1048576 + sN (B.drop (sN B 1048576)) 1048576))).2.2 = 0) : cDecode B = (zC, 5) := if_neg fun hh => h hh.2.2.1
theorem cDecode_e4 {B : Bytes} (h : ¬ ((sN B 1048576 : Int) + (sN (B.drop (sN B 1048576)) 1048576 : Int) + (bRead (B.drop (sN B 1048576 + sN (B.drop (sN B 1048576)) 1048576))).2.1 = B.length)) : cDecode B = (zC, 5) := if_neg fun hh => h hh.2.2.2.1
theorem cDecode_e5 {B : Bytes} (h : ¬ cCheck (cPart B) = 0) : cDecode B = (zC, 5) := if_neg fun hh => h hh.2.2.2.2
theorem cDecode_ok {B : Bytes} (h1 : ¬ ¬ sE B 1048576 = 0) (h2 : ¬ ¬ sE (B.drop (sN B 1048576)) 1048576 = 0) (h3 : ¬ ¬ (bRead (B.drop (sN B 1048576 + sN (B.drop (sN B 1048576)) 1048576))).2.2 = 0)
    (h4 : ¬ ¬ ((sN B 1048576 : Int) + (sN (B.drop (sN B 1048576)) 1048576 : Int) + (bRead (B.drop (sN B 1048576 + sN (B.drop (sN B 1048576)) 1048576))).2.1 = B.length)) (h5 : ¬ ¬ cCheck (cPart B) = 0) : cDecode B = (cPart B, 0) :=
  if_pos ⟨Decidable.not_not.1 h1, Decidable.not_not.1 h2, Decidable.not_not.1 h3, Decidable.not_not.1 h4, Decidable.not_not.1 h5⟩
end
section
set_option linter.unusedVariables false
def ofC (e n : Int) : DCommit := (e, n, [(true, [97], [49])])
def rA (B : Bytes) : Int × RS := rNum B 1048576 (0, false)
end
section
set_option linter.unusedVariables false
theorem Rd.relen {e : Ty} {m : Mem} {A : Option Addr} {l k c : Nat} {xs : List e.Den} (h : Rd (.sl e) m [.slice A l c] xs) (hk : k = xs.length) : Rd (.sl e) m [.slice A k c] xs := by
  obtain ⟨A', c', h1, h2⟩ := h
  simp only [List.cons.injEq, Value.slice.injEq, and_true] at h1
  obtain ⟨rfl, _, rfl⟩ := h1
  exact ⟨_, _, by rw [hk], h2⟩
theorem OwAll.map {α β : Type} {R : Mem → List Value → α → Prop} {S : Mem → List Value → β → Prop} (f : α → β) (hf : ∀ m c x, R m c x → S m c (f x)) : ∀ {xs : List α} {m : Mem} {cs : List Value}, OwAll R m cs xs → OwAll S m cs (xs.map f)
  | [], _, _, h => h
  | _ :: _, _, _, ⟨c1, c2, m1, m2, h1, h2, h3, h4, h5, h6⟩ => ⟨c1, c2, m1, m2, h1, h2, h3, h4, hf _ _ _ h5, h6.map f hf⟩
theorem VO.apart {P : Program} {n : Nat} {w0 : World} {σ : Env} {Ω : Ctx} {ops : Array Oper} {K : Env → Ctx → Prop} {r : List Oper} (ids : List Nat) {l : List Mem} (hg : cgets Ω ids = some l) (h : l.Pairwise mdj → VO P n w0 ops r σ Ω K) : VO P n w0 ops r σ Ω K :=
  fun Q hQ a W he hi => h (hi.gets hg).1 Q hQ a W he hi
theorem VD.apart {P : Program} {n : Nat} {w0 : World} {σ : Env} {Ω ΩS : Ctx} {ops : Array Oper} {K : Env → Ctx → Prop} {t : Nat} {ss : List (Nat × Bool)} (ids : List Nat) {l : List Mem} (hg : cgets Ω ids = some l) (h : l.Pairwise mdj → VD P n w0 ops ΩS t ss σ Ω K) : VD P n w0 ops ΩS t ss σ Ω K :=
  fun Q hn hQ listed a W he hi => h (hi.gets hg).1 Q hn hQ listed a W he hi
section
variable {P : Program} {n : Nat} {w0 : World} {σ : Env} {Ω : Ctx} {ops : Array Oper} {K : Env → Ctx → Prop}
theorem Yld.mkf {d : Nat} {f : FuncId} {xs : List Operand} {caps : List Value} {ty : TypeId} {pos : String} {af : Array Edge} {gd : Option (Nat × Bool)} (ha : evs σ xs = some caps) : Yld P n w0 σ Ω ⟨some d, .makeFunc (.func f) #[] xs.toArray, ty, pos, af, gd⟩ (.func (.func f) #[] caps.toArray) := fun a W he _ => by
  simp [execOp, Instr.makeFunc, he.evals ha]
end
theorem VD.gbsl {P : Program} {n : Nat} {w0 : World} {σ : Env} {Ω ΩS : Ctx} {ops : Array Oper} {t : Nat} {K : Env → Ctx → Prop} {ty : TypeId} {pos : String} {af : Array Edge} {i : Nat} {rr : List (Nat × Bool)} {dd : Nat} {t' e : TypeId} {s b len : Nat} {l : List (Nat × Operand)} {ps : List (Nat × Value)} {z cs : List Value} {jj : Nat} {b' : Bool} (j : Nat) (hd : Nat.blt dd n = true) (ho : ops[i]? = some ⟨some dd, .buildSlice t' len l.toArray, ty, pos, af, some (jj, b')⟩) (hg : gyes σ ops jj b')
    (hl : evp σ l = some ps) (ht : tsl P t' = some (e, s, b)) (hz : tz P e = some z)
    (hsmall : Nat.ble (len * s) 16777216 = true) (hb : bld (fun i => some (i * s, s)) ((List.range (len * s)).map fun j => z.toArray[j % z.toArray.size]!) ps = some cs) (hS : ∀ W, Inv w0 Ω W → Inv w0 ΩS W)
    (h : ∀ g, VD P n w0 ops ΩS t rr ((dd, .slice (some ⟨g, 0, none⟩) len len) :: σ) ((j, mone g (.cells cs.toArray e (0, 0))) :: Ω) K) : VD P n w0 ops ΩS t ((i, false) :: rr) σ Ω K :=
  VD.s (fun v => (dd, v) :: σ) ho (fun v _ he => he.put hd v) (.inr ⟨_, _, rfl, hg⟩) (Stp.bsl j hl ht hz hsmall hb) (fun _ _ ⟨_, _, hΩ⟩ W hW => hS W (by subst hΩ; exact hW.tl)) (fun _ _ ⟨g, hv, hΩ⟩ => hv ▸ hΩ ▸ h g)
abbrev Hd := Option Addr × Nat × Nat
def hv (h : Hd) : Value := .slice h.1 h.2.1 h.2.2
/-- two numbers and a list; two numbers and a list's header. -/
abbrev tC (e : Ty) : Ty := .pair (.int .i64) (.pair (.int .i64) (.sl e))
abbrev DH := Int × Int × Hd
/-- this one, but for where the ops are. -/
def Pc (e : Ty) (m : Mem) (h : DH) (x : (tC e).Den) : Prop := h.1 = x.1 ∧ h.2.1 = x.2.1 ∧ Rd (.sl e) m [hv h.2.2] x.2.2
inductive F2 {α β : Type} (R : α → β → Prop) : List α → List β → Prop
  | nil : F2 R [] []
  | cons {a : α} {b : β} {l : List α} {r : List β} (h : R a b) (t : F2 R l r) : F2 R (a :: l) (b :: r)
theorem F2.mono {α β : Type} {R S : α → β → Prop} {l : List α} {r : List β} (h : F2 R l r) (hs : ∀ a b, R a b → S a b) : F2 S l r := by
  induction h with
  | nil => exact .nil
  | cons h _ ih => exact .cons (hs _ _ h) ih
theorem F2.len {α β : Type} {R : α → β → Prop} {l : List α} {r : List β} (h : F2 R l r) : l.length = r.length := by
  induction h with
  | nil => rfl
  | cons _ _ ih => simp [ih]
theorem F2.get {α β : Type} {R : α → β → Prop} {l : List α} {r : List β} (h : F2 R l r) {i : Nat} {a : α} (ha : l[i]? = some a) : ∃ b, r[i]? = some b ∧ R a b := by
  induction h generalizing i with
  | nil => simp at ha
  | cons h _ ih =>
    cases i with
    | zero => simp at ha; subst ha; exact ⟨_, rfl, h⟩
    | succ i => simp at ha; simpa using ih ha
variable {e : Ty}
theorem Pc.mono {m m' : Mem} {h : DH} {x : (tC e).Den} (hp : Pc e m h x) (hm : mle m m') : Pc e m' h x := ⟨hp.1, hp.2.1, hp.2.2.mono hm⟩
theorem OwAll.len {α : Type} {R : Mem → List Value → α → Prop} {k : Nat} (hk : ∀ m c x, R m c x → c.length = k) : ∀ {xs : List α} {m : Mem} {cs : List Value}, OwAll R m cs xs → cs.length = xs.length * k
  | [], _, _, h => by rw [show _ = [] from h]; simp
  | _ :: r, _, _, ⟨c1, c2, m1, m2, h1, _, _, _, h5, h6⟩ => by
    rw [h1, List.length_append, hk _ _ _ h5, OwAll.len hk h6, List.length_cons, Nat.add_mul]; omega
end
end Go.Proofs.Ytdoamgdanlnlfaa
