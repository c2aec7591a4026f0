/- Part 3 of the proof of LLetterReads: what it needs of the library, the walks and the plain laws. Conditions: those named in each theorem. -/
import Derived.Test.YtcikgnbpcombpaaLLetterReadsM2
namespace Go.Proofs.Ytcikgnbpcombpaa
section
set_option linter.unusedVariables false
set_option linter.unusedSimpArgs false
set_option maxRecDepth 4000
theorem fnOk55 : fnOk Try.prog 55 = true := by kernel_rfl
theorem fnOk56 : fnOk Try.prog 56 = true := by kernel_rfl
theorem fnOk77 : fnOk Try.prog 77 = true := by kernel_rfl
theorem tk22 : tk Try.prog 22 = some none := by kernel_rfl
theorem tk23 : tk Try.prog 23 = some none := by kernel_rfl
theorem tk24 : tk Try.prog 24 = some none := by kernel_rfl
theorem tsl23 : tsl Try.prog 23 = some (57, 2, 16) := by kernel_rfl
theorem tst26 : tst Try.prog 26 = some [(0, 1), (1, 1), (2, 1), (3, 1), (4, 1), (5, 1), (6, 1), (7, 1)] := by kernel_rfl
theorem tst57 : tst Try.prog 57 = some [(0, 1), (1, 1)] := by kernel_rfl
theorem SameStarts_ok (W : World) {v0 : Value} {d0 : List DStart} (h0 : Rd (.sl TStart) (wm W) [v0] d0) {v1 : Value} {d1 : List DStart} (h1 : Rd (.sl TStart) (wm W) [v1] d1) : CallR Try.prog 55 [v0, v1] W (mnil) (fun v m' => v = .bool (decide (d0 = d1))) := by
  obtain ⟨A0, c0, rfl, l0, k0⟩ := h0.slice
  simp only [maxLen] at k0
  obtain ⟨A1, c1, rfl, l1, k1⟩ := h1.slice
  simp only [maxLen] at k1
  refine CallR.ofA (n := 41) Try.func55 rfl rfl rfl ?_
  refine VC.rs ?_
  refine VO.as ?_
  refine VO.k3 0 1 4 ?_
  refine VC.seq ?_
  refine VC.rs ?_
  refine VO.mv ?_
  refine VO.y rfl (.lenS rfl tsl23) ?_
  refine VO.mv ?_
  refine VO.y rfl (.lenS rfl tsl23) ?_
  refine VO.y rfl (.neq rfl rfl) ?_
  refine VO.k4 0 1 4 10 ?_
  refine VC.cond rfl (fun hc1 => ?_) (fun hc1 => ?_)
  · -- T
    refine VC.rs ?_
    refine VO.as ?_
    refine VO.keep [0] [(0, wm W)] (by kernel_rfl) ?_
    refine VO.k4 0 1 4 10 ?_
    refine VC.ret ?_
    refine outR ?_
    refine ⟨_, _, res_run (rs := [.tmp 4]) rfl (.tmp rfl .nil), fun W_ hI => out_of (l := []) hI [] rfl rfl (mle_refl _) (fun hS_ => ?_)⟩
    dsimp only [packV]
    all_goals (first | rfl | (simp [len_ne hc1]))
  · -- F
    refine VC.skip ?_
    refine outN ?_
    refine VC.seq ?_
    refine VC.rs ?_
    refine VO.as ?_
    refine VO.keep [0] [(0, wm W)] (by kernel_rfl) ?_
    refine VO.k5 0 1 4 5 10 ?_
    refine VC.block ?_
    refine VC.loop (G := Nat) (fun k => [(5, Value.int .i64 (((k : Nat) : Int))), (0, Value.slice A0 (d0.length) (c0)), (1, Value.slice A1 (d1.length) (c1)), (10, Value.bool (decide (¬ ((d0.length : Nat) : Int) = ((d1.length : Nat) : Int))))]) (fun k => [(0, wm W)]) (fun k => (k ≤ d0.length) ∧ (d0.take k = d1.take k)) (fun k => d0.length - k) 0 (⟨by omega, by rfl⟩) ⟨⟨rfl, rfl, rfl, rfl, trivial⟩, fun _ h => h.sub [0]⟩ ?_
    rintro k ⟨hk, ht⟩
    refine VC.seq ?_
    refine VC.rs ?_
    refine VO.mv ?_
    refine VO.mv ?_
    refine VO.y rfl (.lenS rfl tsl23) ?_
    refine VO.y rfl (.lss rfl rfl) ?_
    refine VO.k5 0 1 5 10 14 ?_
    refine VC.cond rfl (fun hc2 => ?_) (fun hc2 => ?_)
    · -- FT
      refine VC.skip ?_
      refine outN ?_
      refine VC.seq ?_
      refine VC.block ?_
      refine VC.seq ?_
      refine VC.regD _ 22 [(0, true), (1, true), (2, true), (3, true), (4, true), (5, true), (6, true), (7, true), (8, true), (9, true), (10, true), (11, true), (12, true), (13, true), (14, true), (15, true), (16, true), (17, true), (18, true), (19, true), (20, true), (21, true)] follows (by kernel_rfl) (fun _ h => h.sub [0]) ?_
      refine VD.y rfl rfl (.inl rfl) (.mv rfl) ?_
      refine VD.y rfl rfl (.inl rfl) (.mv rfl) ?_
      obtain ⟨x3, hx3⟩ : ∃ z_, (d0)[k]? = some z_ := ⟨_, List.getElem?_eq_getElem bd⟩
      obtain ⟨gg3, oo3, ec3, ea3, hce3, hre3⟩ := h0.elem hx3
      cases ea3
      obtain ⟨rfl, q3_0, q3_1⟩ := open_Start (x0 := x3.1) (x1 := x3.2) hre3
      simp only [inK] at q3_0
      simp only [inK] at q3_1
      refine VD.y rfl rfl (.inl rfl) (.ixI k rfl rfl tsl23 rfl bd) ?_
      refine VD.y rfl rfl (.inl rfl) (.fa rfl tst57 rfl) ?_
      refine VD.y rfl rfl (.inl rfl) (.ld1 0 rfl tk3 rfl (hce3.at1 (j := 0) rfl)) ?_
      refine VD.y rfl rfl (.inl rfl) (.mv rfl) ?_
      refine VD.y rfl rfl (.inl rfl) (.mv rfl) ?_
      obtain ⟨x4, hx4⟩ : ∃ z_, (d1)[k]? = some z_ := ⟨_, List.getElem?_eq_getElem bd⟩
      obtain ⟨gg4, oo4, ec4, ea4, hce4, hre4⟩ := h1.elem hx4
      cases ea4
      obtain ⟨rfl, q4_0, q4_1⟩ := open_Start (x0 := x4.1) (x1 := x4.2) hre4
      simp only [inK] at q4_0
      simp only [inK] at q4_1
      refine VD.y rfl rfl (.inl rfl) (.ixI k rfl rfl tsl23 rfl bd) ?_
      refine VD.y rfl rfl (.inl rfl) (.fa rfl tst57 rfl) ?_
      refine VD.y rfl rfl (.inl rfl) (.ld1 0 rfl tk3 rfl (hce4.at1 (j := 0) rfl)) ?_
      refine VD.y rfl rfl (.inl rfl) (.neq rfl rfl) ?_
      refine VD.y rfl rfl (.inl rfl) (.mv rfl) ?_
      refine VD.dec (s := 28) rfl (fun hc5 => ?_) (fun hc5 => ?_)
      · -- FTT
        refine VD.gn rfl rfl (.inl ⟨_, rfl, rfl⟩) ?_
        refine VD.gn rfl rfl (.inl ⟨_, rfl, rfl⟩) ?_
        refine VD.gn rfl rfl (.inl ⟨_, rfl, rfl⟩) ?_
        refine VD.gn rfl rfl (.inl ⟨_, rfl, rfl⟩) ?_
        refine VD.gn rfl rfl (.inl ⟨_, rfl, rfl⟩) ?_
        refine VD.gn rfl rfl (.inl ⟨_, rfl, rfl⟩) ?_
        refine VD.gn rfl rfl (.inl ⟨_, rfl, rfl⟩) ?_
        refine VD.gn rfl rfl (.inl ⟨_, rfl, rfl⟩) ?_
        refine VD.gn rfl rfl (.inl ⟨_, rfl, rfl⟩) ?_
        refine VD.gn rfl rfl (.inl ⟨_, rfl, rfl⟩) ?_
        refine VD.nil rfl ?_ rfl
        refine VO.gN ?_
        refine VO.y rfl (.pT rfl rfl) ?_
        refine VO.k6 0 1 5 10 14 40 ?_
        refine outN ?_
        refine VC.condT rfl ?_
        refine VC.rs ?_
        refine VO.as ?_
        refine VO.keep [0] [(0, wm W)] (by kernel_rfl) ?_
        refine VO.k7 0 1 4 5 10 14 40 ?_
        refine VC.ret ?_
        refine outBR ?_
        refine outR ?_
        refine outR ?_
        refine outBR ?_
        refine outR ?_
        refine ⟨_, _, res_run (rs := [.tmp 4]) rfl (.tmp rfl .nil), fun W_ hI => out_of (l := []) hI [] rfl rfl (mle_refl _) (fun hS_ => ?_)⟩
        dsimp only [packV]
        all_goals (first | rfl | (simp [get_ne ‹d0[k]? = some _› ‹d1[k]? = some _› (fun e => by have e1 := congrArg Prod.fst e; have e2 := congrArg Prod.snd e; omega)]))
      · -- FTF
        refine VD.y rfl rfl (.inr ⟨_, _, rfl, _, rfl, rfl⟩) (.mv rfl) ?_
        refine VD.y rfl rfl (.inr ⟨_, _, rfl, _, rfl, rfl⟩) (.mv rfl) ?_
        refine VD.y rfl rfl (.inr ⟨_, _, rfl, _, rfl, rfl⟩) (.ixI k rfl rfl tsl23 rfl bd) ?_
        refine VD.y rfl rfl (.inr ⟨_, _, rfl, _, rfl, rfl⟩) (.fa rfl tst57 rfl) ?_
        refine VD.y rfl rfl (.inr ⟨_, _, rfl, _, rfl, rfl⟩) (.ld1 0 rfl tk3 rfl (hce3.at1 (j := 1) rfl)) ?_
        refine VD.y rfl rfl (.inr ⟨_, _, rfl, _, rfl, rfl⟩) (.mv rfl) ?_
        refine VD.y rfl rfl (.inr ⟨_, _, rfl, _, rfl, rfl⟩) (.mv rfl) ?_
        refine VD.y rfl rfl (.inr ⟨_, _, rfl, _, rfl, rfl⟩) (.ixI k rfl rfl tsl23 rfl bd) ?_
        refine VD.y rfl rfl (.inr ⟨_, _, rfl, _, rfl, rfl⟩) (.fa rfl tst57 rfl) ?_
        refine VD.y rfl rfl (.inr ⟨_, _, rfl, _, rfl, rfl⟩) (.ld1 0 rfl tk3 rfl (hce4.at1 (j := 1) rfl)) ?_
        refine VD.nil rfl ?_ rfl
        refine VO.gy rfl ⟨_, rfl, rfl⟩ (.neq rfl rfl) ?_
        refine VO.y rfl (.pF rfl rfl) ?_
        refine VO.k6 0 1 5 10 14 40 ?_
        refine outN ?_
        refine VC.cond rfl (fun hc8 => ?_) (fun hc8 => ?_)
        · -- FTFT
          refine VC.rs ?_
          refine VO.as ?_
          refine VO.keep [0] [(0, wm W)] (by kernel_rfl) ?_
          refine VO.k7 0 1 4 5 10 14 40 ?_
          refine VC.ret ?_
          refine outBR ?_
          refine outR ?_
          refine outR ?_
          refine outBR ?_
          refine outR ?_
          refine ⟨_, _, res_run (rs := [.tmp 4]) rfl (.tmp rfl .nil), fun W_ hI => out_of (l := []) hI [] rfl rfl (mle_refl _) (fun hS_ => ?_)⟩
          dsimp only [packV]
          all_goals (first | rfl | (simp [get_ne ‹d0[k]? = some _› ‹d1[k]? = some _› (fun e => by have e1 := congrArg Prod.fst e; have e2 := congrArg Prod.snd e; omega)]))
        · -- FTFF
          refine VC.skip ?_
          refine outBN ?_
          refine outN ?_
          refine VC.reg ?_
          refine VO.mv ?_
          refine VO.y rfl (.add (c := ((k + 1 : Nat) : Int)) rfl rfl (by omega) ⟨bd, bd⟩) ?_
          refine VO.as ?_
          refine VO.keep [0] [(0, wm W)] (by kernel_rfl) ?_
          refine VO.k6 0 1 5 10 14 40 ?_
          exact outN ⟨k + 1, ⟨by omega, by exact take_next ht ‹d0[k]? = some _› ‹d1[k]? = some _› (Prod.ext (by omega) (by omega))⟩, bd, ⟨⟨rfl, rfl, rfl, rfl, trivial⟩, fun _ h => Inv.sub h [0]⟩⟩
    · -- FF
      refine VC.exit ?_
      refine outE ?_
      refine outE ?_
      refine outBB ?_
      refine outN ?_
      refine VC.rs ?_
      refine VO.as ?_
      refine VO.k6 0 1 4 5 10 14 ?_
      refine VC.ret ?_
      refine ⟨_, _, res_run (rs := [.tmp 4]) rfl (.tmp rfl .nil), fun W_ hI => out_of (l := []) hI [] rfl rfl (mle_refl _) (fun hS_ => ?_)⟩
      dsimp only [packV]
      all_goals (first | rfl | (simp [take_all ht (by omega) (by omega)]))
theorem SameCommit_ok (W : World) {v0 : List Value} {d0 : DCommit} (h0 : Rd TCommit (wm W) v0 d0) {v1 : List Value} {d1 : DCommit} (h1 : Rd TCommit (wm W) v1 d1) : CallR Try.prog 77 [.agg v0.toArray, .agg v1.toArray] W (mnil) (fun v m' => v = .bool (decide (d0 = d1))) := by
  obtain ⟨p0_A2, p0_c2, rfl, p0_0, p0_1, p0_2⟩ := open_Commit (x0 := d0.1) (x1 := d0.2.1) (x2 := d0.2.2) h0
  simp only [inK] at p0_0
  simp only [inK] at p0_1
  have p0_r2 := Rd.room p0_2
  obtain ⟨p1_A2, p1_c2, rfl, p1_0, p1_1, p1_2⟩ := open_Commit (x0 := d1.1) (x1 := d1.2.1) (x2 := d1.2.2) h1
  simp only [inK] at p1_0
  simp only [inK] at p1_1
  have p1_r2 := Rd.room p1_2
  refine CallR.ofA (n := 24) Try.func77 rfl rfl rfl ?_
  refine VC.rs ?_
  refine VO.box (cs := [Value.int .i64 (d0.1), Value.int .i64 (d0.2.1), Value.slice p0_A2 (d0.2.2.length) (p0_c2)]) 102 rfl rfl rfl (fun g1 => ?_)
  refine VO.box (cs := [Value.int .i64 (d1.1), Value.int .i64 (d1.2.1), Value.slice p1_A2 (d1.2.2.length) (p1_c2)]) 104 rfl rfl rfl (fun g3 => ?_)
  refine VO.as ?_
  refine VO.k5 0 1 2 3 4 ?_
  refine VC.rs ?_
  refine VO.y rfl (.fa rfl tst43 rfl) ?_
  refine VO.y rfl (.ld1 102 rfl tk3 rfl (cellsAt_one rfl rfl)) ?_
  refine VO.y rfl (.fa rfl tst43 rfl) ?_
  refine VO.y rfl (.ld1 104 rfl tk3 rfl (cellsAt_one rfl rfl)) ?_
  refine VO.y rfl (.eql rfl rfl) ?_
  refine VO.mv ?_
  refine VO.dec (t := 10) rfl (fun hc5 => ?_) (fun hc5 => ?_)
  · -- T
    refine VO.gy rfl ⟨_, rfl, rfl⟩ (.fa rfl tst43 rfl) ?_
    refine VO.gy rfl ⟨_, rfl, rfl⟩ (.ld1 102 rfl tk3 rfl (cellsAt_one rfl rfl)) ?_
    refine VO.gy rfl ⟨_, rfl, rfl⟩ (.fa rfl tst43 rfl) ?_
    refine VO.gy rfl ⟨_, rfl, rfl⟩ (.ld1 104 rfl tk3 rfl (cellsAt_one rfl rfl)) ?_
    refine VO.gy rfl ⟨_, rfl, rfl⟩ (.eql rfl rfl) ?_
    refine VO.y rfl (.pT rfl rfl) ?_
    refine VO.mv ?_
    refine VO.dec (t := 17) rfl (fun hc6 => ?_) (fun hc6 => ?_)
    · -- TT
      refine VO.gy rfl ⟨_, rfl, rfl⟩ (.fa rfl tst43 rfl) ?_
      refine VO.gy rfl ⟨_, rfl, rfl⟩ (.ld1 102 rfl tk41 rfl (cellsAt_one rfl rfl)) ?_
      refine VO.gy rfl ⟨_, rfl, rfl⟩ (.fa rfl tst43 rfl) ?_
      refine VO.gy rfl ⟨_, rfl, rfl⟩ (.ld1 104 rfl tk41 rfl (cellsAt_one rfl rfl)) ?_
      refine VO.gcallN 107 rfl ⟨_, rfl, rfl⟩ fnOk85 rfl (fun W hW => SameOps_ok W (Rd.mono p0_2 (hW.at (i := 0) rfl)) (Rd.mono p1_2 (hW.at (i := 0) rfl))) (fun v7 m7 hv7 => ?_)
      subst hv7
      refine VO.y rfl (.pT rfl rfl) ?_
      refine VO.as ?_
      refine VO.k5 0 1 2 3 4 ?_
      refine VC.ret ?_
      refine ⟨_, _, res_run (rs := [.tmp 4]) rfl (.tmp rfl .nil), fun W_ hI => out_of (l := []) hI [] rfl rfl (mle_refl _) (fun hS_ => ?_)⟩
      dsimp only [packV]
      all_goals (first | rfl | (first | exact congrArg Value.bool (decide_eq_false (fun e => by subst e; exact absurd rfl ‹¬ _ = _›)).symm | exact congrArg Value.bool (decide_eq_decide.2 ⟨fun h => commit_ext ‹_› ‹_› h, fun e => by rw [e]⟩)))
    · -- TF
      refine VO.gN ?_
      refine VO.gN ?_
      refine VO.gN ?_
      refine VO.gN ?_
      refine VO.gN ?_
      refine VO.y rfl (.pF rfl rfl) ?_
      refine VO.as ?_
      refine VO.k5 0 1 2 3 4 ?_
      refine VC.ret ?_
      refine ⟨_, _, res_run (rs := [.tmp 4]) rfl (.tmp rfl .nil), fun W_ hI => out_of (l := []) hI [] rfl rfl (mle_refl _) (fun hS_ => ?_)⟩
      dsimp only [packV]
      all_goals (first | rfl | (first | exact congrArg Value.bool (decide_eq_false (fun e => by subst e; exact absurd rfl ‹¬ _ = _›)).symm | exact congrArg Value.bool (decide_eq_decide.2 ⟨fun h => commit_ext ‹_› ‹_› h, fun e => by rw [e]⟩)))
  · -- F
    refine VO.gN ?_
    refine VO.gN ?_
    refine VO.gN ?_
    refine VO.gN ?_
    refine VO.gN ?_
    refine VO.y rfl (.pF rfl rfl) ?_
    refine VO.mv ?_
    refine VO.gN ?_
    refine VO.gN ?_
    refine VO.gN ?_
    refine VO.gN ?_
    refine VO.gN ?_
    refine VO.y rfl (.pF rfl rfl) ?_
    refine VO.as ?_
    refine VO.k5 0 1 2 3 4 ?_
    refine VC.ret ?_
    refine ⟨_, _, res_run (rs := [.tmp 4]) rfl (.tmp rfl .nil), fun W_ hI => out_of (l := []) hI [] rfl rfl (mle_refl _) (fun hS_ => ?_)⟩
    dsimp only [packV]
    all_goals (first | rfl | (first | exact congrArg Value.bool (decide_eq_false (fun e => by subst e; exact absurd rfl ‹¬ _ = _›)).symm | exact congrArg Value.bool (decide_eq_decide.2 ⟨fun h => commit_ext ‹_› ‹_› h, fun e => by rw [e]⟩)))
theorem SameCommits_ok (W : World) {v0 : Value} {d0 : List DCommit} (h0 : Rd (.sl TCommit) (wm W) [v0] d0) {v1 : Value} {d1 : List DCommit} (h1 : Rd (.sl TCommit) (wm W) [v1] d1) : CallR Try.prog 56 [v0, v1] W (mnil) (fun v m' => v = .bool (decide (d0 = d1))) := by
  obtain ⟨A0, c0, rfl, l0, k0⟩ := h0.slice
  simp only [maxLen] at k0
  obtain ⟨A1, c1, rfl, l1, k1⟩ := h1.slice
  simp only [maxLen] at k1
  refine CallR.ofA (n := 27) Try.func56 rfl rfl rfl ?_
  refine VC.rs ?_
  refine VO.as ?_
  refine VO.k3 0 1 4 ?_
  refine VC.seq ?_
  refine VC.rs ?_
  refine VO.mv ?_
  refine VO.y rfl (.lenS rfl tsl24) ?_
  refine VO.mv ?_
  refine VO.y rfl (.lenS rfl tsl24) ?_
  refine VO.y rfl (.neq rfl rfl) ?_
  refine VO.k4 0 1 4 10 ?_
  refine VC.cond rfl (fun hc1 => ?_) (fun hc1 => ?_)
  · -- T
    refine VC.rs ?_
    refine VO.as ?_
    refine VO.keep [0] [(0, wm W)] (by kernel_rfl) ?_
    refine VO.k4 0 1 4 10 ?_
    refine VC.ret ?_
    refine outR ?_
    refine ⟨_, _, res_run (rs := [.tmp 4]) rfl (.tmp rfl .nil), fun W_ hI => out_of (l := []) hI [] rfl rfl (mle_refl _) (fun hS_ => ?_)⟩
    dsimp only [packV]
    all_goals (first | rfl | (simp [len_ne hc1]))
  · -- F
    refine VC.skip ?_
    refine outN ?_
    refine VC.seq ?_
    refine VC.rs ?_
    refine VO.as ?_
    refine VO.keep [0] [(0, wm W)] (by kernel_rfl) ?_
    refine VO.k5 0 1 4 5 10 ?_
    refine VC.block ?_
    refine VC.loop (G := Nat) (fun k => [(5, Value.int .i64 (((k : Nat) : Int))), (0, Value.slice A0 (d0.length) (c0)), (1, Value.slice A1 (d1.length) (c1)), (10, Value.bool (decide (¬ ((d0.length : Nat) : Int) = ((d1.length : Nat) : Int))))]) (fun k => [(0, wm W)]) (fun k => (k ≤ d0.length) ∧ (d0.take k = d1.take k)) (fun k => d0.length - k) 0 (⟨by omega, by rfl⟩) ⟨⟨rfl, rfl, rfl, rfl, trivial⟩, fun _ h => h.sub [0]⟩ ?_
    rintro k ⟨hk, ht⟩
    refine VC.seq ?_
    refine VC.rs ?_
    refine VO.mv ?_
    refine VO.mv ?_
    refine VO.y rfl (.lenS rfl tsl24) ?_
    refine VO.y rfl (.lss rfl rfl) ?_
    refine VO.k5 0 1 5 10 14 ?_
    refine VC.cond rfl (fun hc2 => ?_) (fun hc2 => ?_)
    · -- FT
      refine VC.skip ?_
      refine outN ?_
      refine VC.seq ?_
      refine VC.block ?_
      refine VC.seq ?_
      refine VC.regD _ 8 [(0, true), (1, true), (2, true), (3, true), (4, true), (5, true), (6, true), (7, true)] follows (by kernel_rfl) (fun _ h => h.sub [0]) ?_
      refine VD.y rfl rfl (.inl rfl) (.mv rfl) ?_
      refine VD.y rfl rfl (.inl rfl) (.mv rfl) ?_
      obtain ⟨x3, hx3⟩ : ∃ z_, (d0)[k]? = some z_ := ⟨_, List.getElem?_eq_getElem bd⟩
      obtain ⟨gg3, oo3, ec3, ea3, hce3, hre3⟩ := h0.elem hx3
      cases ea3
      obtain ⟨q3_A2, q3_c2, rfl, q3_0, q3_1, q3_2⟩ := open_Commit (x0 := x3.1) (x1 := x3.2.1) (x2 := x3.2.2) hre3
      simp only [inK] at q3_0
      simp only [inK] at q3_1
      have q3_r2 := Rd.room q3_2
      refine VD.y rfl rfl (.inl rfl) (.ixI k rfl rfl tsl24 rfl bd) ?_
      refine VD.y rfl rfl (.inl rfl) (.ldA 0 rfl tk43 rfl hce3) ?_
      refine VD.y rfl rfl (.inl rfl) (.mv rfl) ?_
      refine VD.y rfl rfl (.inl rfl) (.mv rfl) ?_
      obtain ⟨x4, hx4⟩ : ∃ z_, (d1)[k]? = some z_ := ⟨_, List.getElem?_eq_getElem bd⟩
      obtain ⟨gg4, oo4, ec4, ea4, hce4, hre4⟩ := h1.elem hx4
      cases ea4
      obtain ⟨q4_A2, q4_c2, rfl, q4_0, q4_1, q4_2⟩ := open_Commit (x0 := x4.1) (x1 := x4.2.1) (x2 := x4.2.2) hre4
      simp only [inK] at q4_0
      simp only [inK] at q4_1
      have q4_r2 := Rd.room q4_2
      refine VD.y rfl rfl (.inl rfl) (.ixI k rfl rfl tsl24 rfl bd) ?_
      refine VD.y rfl rfl (.inl rfl) (.ldA 0 rfl tk43 rfl hce4) ?_
      refine VD.nil rfl ?_ rfl
      refine VO.callN 105 rfl fnOk77 rfl (fun W hW => SameCommit_ok W (Rd.mono hre3 (hW.at (i := 0) rfl)) (Rd.mono hre4 (hW.at (i := 0) rfl))) (fun v5 m5 hv5 => ?_)
      subst hv5
      refine VO.y rfl (.notD rfl) ?_
      refine VO.k6 0 1 5 10 14 26 ?_
      refine outN ?_
      refine VC.cond rfl (fun hc6 => ?_) (fun hc6 => ?_)
      · -- FTT
        refine VC.rs ?_
        refine VO.as ?_
        refine VO.keep [0] [(0, wm W)] (by kernel_rfl) ?_
        refine VO.k7 0 1 4 5 10 14 26 ?_
        refine VC.ret ?_
        refine outBR ?_
        refine outR ?_
        refine outR ?_
        refine outBR ?_
        refine outR ?_
        refine ⟨_, _, res_run (rs := [.tmp 4]) rfl (.tmp rfl .nil), fun W_ hI => out_of (l := []) hI [] rfl rfl (mle_refl _) (fun hS_ => ?_)⟩
        dsimp only [packV]
        all_goals (first | rfl | (simp [get_ne ‹d0[k]? = some _› ‹d1[k]? = some _› (‹¬ _ = _›)]))
      · -- FTF
        refine VC.skip ?_
        refine outBN ?_
        refine outN ?_
        refine VC.reg ?_
        refine VO.mv ?_
        refine VO.y rfl (.add (c := ((k + 1 : Nat) : Int)) rfl rfl (by omega) ⟨bd, bd⟩) ?_
        refine VO.as ?_
        refine VO.keep [0] [(0, wm W)] (by kernel_rfl) ?_
        refine VO.k6 0 1 5 10 14 26 ?_
        exact outN ⟨k + 1, ⟨by omega, by exact take_next ht ‹d0[k]? = some _› ‹d1[k]? = some _› (Decidable.not_not.1 ‹¬ ¬ _ = _›)⟩, bd, ⟨⟨rfl, rfl, rfl, rfl, trivial⟩, fun _ h => Inv.sub h [0]⟩⟩
    · -- FF
      refine VC.exit ?_
      refine outE ?_
      refine outE ?_
      refine outBB ?_
      refine outN ?_
      refine VC.rs ?_
      refine VO.as ?_
      refine VO.k6 0 1 4 5 10 14 ?_
      refine VC.ret ?_
      refine ⟨_, _, res_run (rs := [.tmp 4]) rfl (.tmp rfl .nil), fun W_ hI => out_of (l := []) hI [] rfl rfl (mle_refl _) (fun hS_ => ?_)⟩
      dsimp only [packV]
      all_goals (first | rfl | (simp [take_all ht (by omega) (by omega)]))
theorem fin0_SameMessage_ok {P : Prop} (h : P := by first | exact congrArg Value.bool (decide_eq_false (fun e => by subst e; exact absurd rfl ‹¬ _ = _›)).symm | exact congrArg Value.bool (decide_eq_decide.2 ⟨fun h => message_ext ‹_› ‹_› ‹_› ‹_› ‹_› ‹_› ‹_› h, fun e => by rw [e]⟩)) : P := h
theorem SameMessage_ok (W : World) {v0 : List Value} {d0 : DMessage} (h0 : Rd TMessage (wm W) v0 d0) {v1 : List Value} {d1 : DMessage} (h1 : Rd TMessage (wm W) v1 d1) : CallR Try.prog 23 [.agg v0.toArray, .agg v1.toArray] W (mnil) (fun v m' => v = .bool (decide (d0 = d1))) := by
  obtain ⟨p0_A4, p0_c4, p0_A7, p0_c7, rfl, p0_0, p0_1, p0_2, p0_3, p0_4, p0_5, p0_6, p0_7⟩ := open_Message (x0 := d0.1) (x1 := d0.2.1) (x2 := d0.2.2.1) (x3 := d0.2.2.2.1) (x4 := d0.2.2.2.2.1) (x5 := d0.2.2.2.2.2.1) (x6 := d0.2.2.2.2.2.2.1) (x7 := d0.2.2.2.2.2.2.2) h0
  simp only [inK] at p0_0
  simp only [inK] at p0_1
  simp only [inK] at p0_2
  simp only [inK] at p0_3
  have p0_r4 := Rd.room p0_4
  simp only [inK] at p0_5
  simp only [inK] at p0_6
  have p0_r7 := Rd.room p0_7
  obtain ⟨p1_A4, p1_c4, p1_A7, p1_c7, rfl, p1_0, p1_1, p1_2, p1_3, p1_4, p1_5, p1_6, p1_7⟩ := open_Message (x0 := d1.1) (x1 := d1.2.1) (x2 := d1.2.2.1) (x3 := d1.2.2.2.1) (x4 := d1.2.2.2.2.1) (x5 := d1.2.2.2.2.2.1) (x6 := d1.2.2.2.2.2.2.1) (x7 := d1.2.2.2.2.2.2.2) h1
  simp only [inK] at p1_0
  simp only [inK] at p1_1
  simp only [inK] at p1_2
  simp only [inK] at p1_3
  have p1_r4 := Rd.room p1_4
  simp only [inK] at p1_5
  simp only [inK] at p1_6
  have p1_r7 := Rd.room p1_7
  refine CallR.ofA (n := 59) Try.func23 rfl rfl rfl ?_
  refine VC.rs ?_
  refine VO.box (cs := [Value.int .i64 (d0.1), Value.int .i64 (d0.2.1), Value.int .u8 (d0.2.2.1), Value.int .i64 (d0.2.2.2.1), Value.slice p0_A4 (d0.2.2.2.2.1.length) (p0_c4), Value.int .i64 (d0.2.2.2.2.2.1), Value.int .i64 (d0.2.2.2.2.2.2.1), Value.slice p0_A7 (d0.2.2.2.2.2.2.2.length) (p0_c7)]) 102 rfl rfl rfl (fun g1 => ?_)
  refine VO.box (cs := [Value.int .i64 (d1.1), Value.int .i64 (d1.2.1), Value.int .u8 (d1.2.2.1), Value.int .i64 (d1.2.2.2.1), Value.slice p1_A4 (d1.2.2.2.2.1.length) (p1_c4), Value.int .i64 (d1.2.2.2.2.2.1), Value.int .i64 (d1.2.2.2.2.2.2.1), Value.slice p1_A7 (d1.2.2.2.2.2.2.2.length) (p1_c7)]) 104 rfl rfl rfl (fun g3 => ?_)
  refine VO.as ?_
  refine VO.k5 0 1 2 3 4 ?_
  refine VC.rs ?_
  refine VO.y rfl (.fa rfl tst26 rfl) ?_
  refine VO.y rfl (.ld1 102 rfl tk3 rfl (cellsAt_one rfl rfl)) ?_
  refine VO.y rfl (.fa rfl tst26 rfl) ?_
  refine VO.y rfl (.ld1 104 rfl tk3 rfl (cellsAt_one rfl rfl)) ?_
  refine VO.y rfl (.eql rfl rfl) ?_
  refine VO.mv ?_
  refine VO.dec (t := 10) rfl (fun hc5 => ?_) (fun hc5 => ?_)
  · -- T
    refine VO.gy rfl ⟨_, rfl, rfl⟩ (.fa rfl tst26 rfl) ?_
    refine VO.gy rfl ⟨_, rfl, rfl⟩ (.ld1 102 rfl tk3 rfl (cellsAt_one rfl rfl)) ?_
    refine VO.gy rfl ⟨_, rfl, rfl⟩ (.fa rfl tst26 rfl) ?_
    refine VO.gy rfl ⟨_, rfl, rfl⟩ (.ld1 104 rfl tk3 rfl (cellsAt_one rfl rfl)) ?_
    refine VO.gy rfl ⟨_, rfl, rfl⟩ (.eql rfl rfl) ?_
    refine VO.y rfl (.pT rfl rfl) ?_
    refine VO.mv ?_
    refine VO.dec (t := 17) rfl (fun hc6 => ?_) (fun hc6 => ?_)
    · -- TT
      refine VO.gy rfl ⟨_, rfl, rfl⟩ (.fa rfl tst26 rfl) ?_
      refine VO.gy rfl ⟨_, rfl, rfl⟩ (.ld1 102 rfl tk22 rfl (cellsAt_one rfl rfl)) ?_
      refine VO.gy rfl ⟨_, rfl, rfl⟩ (.fa rfl tst26 rfl) ?_
      refine VO.gy rfl ⟨_, rfl, rfl⟩ (.ld1 104 rfl tk22 rfl (cellsAt_one rfl rfl)) ?_
      refine VO.gy rfl ⟨_, rfl, rfl⟩ (.eql rfl rfl) ?_
      refine VO.y rfl (.pT rfl rfl) ?_
      refine VO.mv ?_
      refine VO.dec (t := 24) rfl (fun hc7 => ?_) (fun hc7 => ?_)
      · -- TTT
        refine VO.gy rfl ⟨_, rfl, rfl⟩ (.fa rfl tst26 rfl) ?_
        refine VO.gy rfl ⟨_, rfl, rfl⟩ (.ld1 102 rfl tk3 rfl (cellsAt_one rfl rfl)) ?_
        refine VO.gy rfl ⟨_, rfl, rfl⟩ (.fa rfl tst26 rfl) ?_
        refine VO.gy rfl ⟨_, rfl, rfl⟩ (.ld1 104 rfl tk3 rfl (cellsAt_one rfl rfl)) ?_
        refine VO.gy rfl ⟨_, rfl, rfl⟩ (.eql rfl rfl) ?_
        refine VO.y rfl (.pT rfl rfl) ?_
        refine VO.mv ?_
        refine VO.dec (t := 31) rfl (fun hc8 => ?_) (fun hc8 => ?_)
        · -- TTTT
          refine VO.gy rfl ⟨_, rfl, rfl⟩ (.fa rfl tst26 rfl) ?_
          refine VO.gy rfl ⟨_, rfl, rfl⟩ (.ld1 102 rfl tk23 rfl (cellsAt_one rfl rfl)) ?_
          refine VO.gy rfl ⟨_, rfl, rfl⟩ (.fa rfl tst26 rfl) ?_
          refine VO.gy rfl ⟨_, rfl, rfl⟩ (.ld1 104 rfl tk23 rfl (cellsAt_one rfl rfl)) ?_
          refine VO.gcallN 109 rfl ⟨_, rfl, rfl⟩ fnOk55 rfl (fun W hW => SameStarts_ok W (Rd.mono p0_4 (hW.at (i := 0) rfl)) (Rd.mono p1_4 (hW.at (i := 0) rfl))) (fun v9 m9 hv9 => ?_)
          subst hv9
          refine VO.y rfl (.pT rfl rfl) ?_
          refine VO.mv ?_
          refine VO.dec (t := 38) rfl (fun hc10 => ?_) (fun hc10 => ?_)
          · -- TTTTT
            refine VO.gy rfl ⟨_, rfl, rfl⟩ (.fa rfl tst26 rfl) ?_
            refine VO.gy rfl ⟨_, rfl, rfl⟩ (.ld1 102 rfl tk3 rfl (cellsAt_one rfl rfl)) ?_
            refine VO.gy rfl ⟨_, rfl, rfl⟩ (.fa rfl tst26 rfl) ?_
            refine VO.gy rfl ⟨_, rfl, rfl⟩ (.ld1 104 rfl tk3 rfl (cellsAt_one rfl rfl)) ?_
            refine VO.gy rfl ⟨_, rfl, rfl⟩ (.eql rfl rfl) ?_
            refine VO.y rfl (.pT rfl rfl) ?_
            refine VO.mv ?_
            refine VO.dec (t := 45) rfl (fun hc11 => ?_) (fun hc11 => ?_)
            · -- TTTTTT
              refine VO.gy rfl ⟨_, rfl, rfl⟩ (.fa rfl tst26 rfl) ?_
              refine VO.gy rfl ⟨_, rfl, rfl⟩ (.ld1 102 rfl tk3 rfl (cellsAt_one rfl rfl)) ?_
              refine VO.gy rfl ⟨_, rfl, rfl⟩ (.fa rfl tst26 rfl) ?_
              refine VO.gy rfl ⟨_, rfl, rfl⟩ (.ld1 104 rfl tk3 rfl (cellsAt_one rfl rfl)) ?_
              refine VO.gy rfl ⟨_, rfl, rfl⟩ (.eql rfl rfl) ?_
              refine VO.y rfl (.pT rfl rfl) ?_
              refine VO.mv ?_
              refine VO.dec (t := 52) rfl (fun hc12 => ?_) (fun hc12 => ?_)
              · -- TTTTTTT
                refine VO.gy rfl ⟨_, rfl, rfl⟩ (.fa rfl tst26 rfl) ?_
                refine VO.gy rfl ⟨_, rfl, rfl⟩ (.ld1 102 rfl tk24 rfl (cellsAt_one rfl rfl)) ?_
                refine VO.gy rfl ⟨_, rfl, rfl⟩ (.fa rfl tst26 rfl) ?_
                refine VO.gy rfl ⟨_, rfl, rfl⟩ (.ld1 104 rfl tk24 rfl (cellsAt_one rfl rfl)) ?_
                refine VO.gcallN 113 rfl ⟨_, rfl, rfl⟩ fnOk56 rfl (fun W hW => SameCommits_ok W (Rd.mono p0_7 (hW.at (i := 0) rfl)) (Rd.mono p1_7 (hW.at (i := 0) rfl))) (fun v13 m13 hv13 => ?_)
                subst hv13
                refine VO.y rfl (.pT rfl rfl) ?_
                refine VO.as ?_
                refine VO.k5 0 1 2 3 4 ?_
                refine VC.ret ?_
                refine ⟨_, _, res_run (rs := [.tmp 4]) rfl (.tmp rfl .nil), fun W_ hI => out_of (l := []) hI [] rfl rfl (mle_refl _) (fun hS_ => ?_)⟩
                dsimp only [packV]
                all_goals (first | rfl | (exact fin0_SameMessage_ok))
              · -- TTTTTTF
                refine VO.gN ?_
                refine VO.gN ?_
                refine VO.gN ?_
                refine VO.gN ?_
                refine VO.gN ?_
                refine VO.y rfl (.pF rfl rfl) ?_
                refine VO.as ?_
                refine VO.k5 0 1 2 3 4 ?_
                refine VC.ret ?_
                refine ⟨_, _, res_run (rs := [.tmp 4]) rfl (.tmp rfl .nil), fun W_ hI => out_of (l := []) hI [] rfl rfl (mle_refl _) (fun hS_ => ?_)⟩
                dsimp only [packV]
                all_goals (first | rfl | (exact fin0_SameMessage_ok))
            · -- TTTTTF
              refine VO.gN ?_
              refine VO.gN ?_
              refine VO.gN ?_
              refine VO.gN ?_
              refine VO.gN ?_
              refine VO.y rfl (.pF rfl rfl) ?_
              refine VO.mv ?_
              refine VO.gN ?_
              refine VO.gN ?_
              refine VO.gN ?_
              refine VO.gN ?_
              refine VO.gN ?_
              refine VO.y rfl (.pF rfl rfl) ?_
              refine VO.as ?_
              refine VO.k5 0 1 2 3 4 ?_
              refine VC.ret ?_
              refine ⟨_, _, res_run (rs := [.tmp 4]) rfl (.tmp rfl .nil), fun W_ hI => out_of (l := []) hI [] rfl rfl (mle_refl _) (fun hS_ => ?_)⟩
              dsimp only [packV]
              all_goals (first | rfl | (exact fin0_SameMessage_ok))
          · -- TTTTF
            refine VO.gN ?_
            refine VO.gN ?_
            refine VO.gN ?_
            refine VO.gN ?_
            refine VO.gN ?_
            refine VO.y rfl (.pF rfl rfl) ?_
            refine VO.mv ?_
            refine VO.gN ?_
            refine VO.gN ?_
            refine VO.gN ?_
            refine VO.gN ?_
            refine VO.gN ?_
            refine VO.y rfl (.pF rfl rfl) ?_
            refine VO.mv ?_
            refine VO.gN ?_
            refine VO.gN ?_
            refine VO.gN ?_
            refine VO.gN ?_
            refine VO.gN ?_
            refine VO.y rfl (.pF rfl rfl) ?_
            refine VO.as ?_
            refine VO.k5 0 1 2 3 4 ?_
            refine VC.ret ?_
            refine ⟨_, _, res_run (rs := [.tmp 4]) rfl (.tmp rfl .nil), fun W_ hI => out_of (l := []) hI [] rfl rfl (mle_refl _) (fun hS_ => ?_)⟩
            dsimp only [packV]
            all_goals (first | rfl | (exact fin0_SameMessage_ok))
        · -- TTTF
          refine VO.gN ?_
          refine VO.gN ?_
          refine VO.gN ?_
          refine VO.gN ?_
          refine VO.gN ?_
          refine VO.y rfl (.pF rfl rfl) ?_
          refine VO.mv ?_
          refine VO.gN ?_
          refine VO.gN ?_
          refine VO.gN ?_
          refine VO.gN ?_
          refine VO.gN ?_
          refine VO.y rfl (.pF rfl rfl) ?_
          refine VO.mv ?_
          refine VO.gN ?_
          refine VO.gN ?_
          refine VO.gN ?_
          refine VO.gN ?_
          refine VO.gN ?_
          refine VO.y rfl (.pF rfl rfl) ?_
          refine VO.mv ?_
          refine VO.gN ?_
          refine VO.gN ?_
          refine VO.gN ?_
          refine VO.gN ?_
          refine VO.gN ?_
          refine VO.y rfl (.pF rfl rfl) ?_
          refine VO.as ?_
          refine VO.k5 0 1 2 3 4 ?_
          refine VC.ret ?_
          refine ⟨_, _, res_run (rs := [.tmp 4]) rfl (.tmp rfl .nil), fun W_ hI => out_of (l := []) hI [] rfl rfl (mle_refl _) (fun hS_ => ?_)⟩
          dsimp only [packV]
          all_goals (first | rfl | (exact fin0_SameMessage_ok))
      · -- TTF
        refine VO.gN ?_
        refine VO.gN ?_
        refine VO.gN ?_
        refine VO.gN ?_
        refine VO.gN ?_
        refine VO.y rfl (.pF rfl rfl) ?_
        refine VO.mv ?_
        refine VO.gN ?_
        refine VO.gN ?_
        refine VO.gN ?_
        refine VO.gN ?_
        refine VO.gN ?_
        refine VO.y rfl (.pF rfl rfl) ?_
        refine VO.mv ?_
        refine VO.gN ?_
        refine VO.gN ?_
        refine VO.gN ?_
        refine VO.gN ?_
        refine VO.gN ?_
        refine VO.y rfl (.pF rfl rfl) ?_
        refine VO.mv ?_
        refine VO.gN ?_
        refine VO.gN ?_
        refine VO.gN ?_
        refine VO.gN ?_
        refine VO.gN ?_
        refine VO.y rfl (.pF rfl rfl) ?_
        refine VO.mv ?_
        refine VO.gN ?_
        refine VO.gN ?_
        refine VO.gN ?_
        refine VO.gN ?_
        refine VO.gN ?_
        refine VO.y rfl (.pF rfl rfl) ?_
        refine VO.as ?_
        refine VO.k5 0 1 2 3 4 ?_
        refine VC.ret ?_
        refine ⟨_, _, res_run (rs := [.tmp 4]) rfl (.tmp rfl .nil), fun W_ hI => out_of (l := []) hI [] rfl rfl (mle_refl _) (fun hS_ => ?_)⟩
        dsimp only [packV]
        all_goals (first | rfl | (exact fin0_SameMessage_ok))
    · -- TF
      refine VO.gN ?_
      refine VO.gN ?_
      refine VO.gN ?_
      refine VO.gN ?_
      refine VO.gN ?_
      refine VO.y rfl (.pF rfl rfl) ?_
      refine VO.mv ?_
      refine VO.gN ?_
      refine VO.gN ?_
      refine VO.gN ?_
      refine VO.gN ?_
      refine VO.gN ?_
      refine VO.y rfl (.pF rfl rfl) ?_
      refine VO.mv ?_
      refine VO.gN ?_
      refine VO.gN ?_
      refine VO.gN ?_
      refine VO.gN ?_
      refine VO.gN ?_
      refine VO.y rfl (.pF rfl rfl) ?_
      refine VO.mv ?_
      refine VO.gN ?_
      refine VO.gN ?_
      refine VO.gN ?_
      refine VO.gN ?_
      refine VO.gN ?_
      refine VO.y rfl (.pF rfl rfl) ?_
      refine VO.mv ?_
      refine VO.gN ?_
      refine VO.gN ?_
      refine VO.gN ?_
      refine VO.gN ?_
      refine VO.gN ?_
      refine VO.y rfl (.pF rfl rfl) ?_
      refine VO.mv ?_
      refine VO.gN ?_
      refine VO.gN ?_
      refine VO.gN ?_
      refine VO.gN ?_
      refine VO.gN ?_
      refine VO.y rfl (.pF rfl rfl) ?_
      refine VO.as ?_
      refine VO.k5 0 1 2 3 4 ?_
      refine VC.ret ?_
      refine ⟨_, _, res_run (rs := [.tmp 4]) rfl (.tmp rfl .nil), fun W_ hI => out_of (l := []) hI [] rfl rfl (mle_refl _) (fun hS_ => ?_)⟩
      dsimp only [packV]
      all_goals (first | rfl | (exact fin0_SameMessage_ok))
  · -- F
    refine VO.gN ?_
    refine VO.gN ?_
    refine VO.gN ?_
    refine VO.gN ?_
    refine VO.gN ?_
    refine VO.y rfl (.pF rfl rfl) ?_
    refine VO.mv ?_
    refine VO.gN ?_
    refine VO.gN ?_
    refine VO.gN ?_
    refine VO.gN ?_
    refine VO.gN ?_
    refine VO.y rfl (.pF rfl rfl) ?_
    refine VO.mv ?_
    refine VO.gN ?_
    refine VO.gN ?_
    refine VO.gN ?_
    refine VO.gN ?_
    refine VO.gN ?_
    refine VO.y rfl (.pF rfl rfl) ?_
    refine VO.mv ?_
    refine VO.gN ?_
    refine VO.gN ?_
    refine VO.gN ?_
    refine VO.gN ?_
    refine VO.gN ?_
    refine VO.y rfl (.pF rfl rfl) ?_
    refine VO.mv ?_
    refine VO.gN ?_
    refine VO.gN ?_
    refine VO.gN ?_
    refine VO.gN ?_
    refine VO.gN ?_
    refine VO.y rfl (.pF rfl rfl) ?_
    refine VO.mv ?_
    refine VO.gN ?_
    refine VO.gN ?_
    refine VO.gN ?_
    refine VO.gN ?_
    refine VO.gN ?_
    refine VO.y rfl (.pF rfl rfl) ?_
    refine VO.mv ?_
    refine VO.gN ?_
    refine VO.gN ?_
    refine VO.gN ?_
    refine VO.gN ?_
    refine VO.gN ?_
    refine VO.y rfl (.pF rfl rfl) ?_
    refine VO.as ?_
    refine VO.k5 0 1 2 3 4 ?_
    refine VC.ret ?_
    refine ⟨_, _, res_run (rs := [.tmp 4]) rfl (.tmp rfl .nil), fun W_ hI => out_of (l := []) hI [] rfl rfl (mle_refl _) (fun hS_ => ?_)⟩
    dsimp only [packV]
    all_goals (first | rfl | (exact fin0_SameMessage_ok))
end
section
set_option linter.unusedVariables false
def sGo (en : Int) : Int → Int → Nat → List DStart → Prop
  | _, _, _, [] => True
  | le, lf, i, s :: r => le < s.1 ∧ s.1 ≤ 1048576 ∧ lf < s.2 ∧ s.2 ≤ en ∧ (i = 0 → s.2 = 1) ∧ sGo en s.1 s.2 (i + 1) r
instance decGo (en : Int) : ∀ (le lf : Int) (i : Nat) (l : List DStart), Decidable (sGo en le lf i l)
  | _, _, _, [] => isTrue trivial
  | le, lf, i, s :: r => by
    have := decGo en s.1 s.2 (i + 1) r
    unfold sGo; infer_instance
def sCheck (l : List DStart) (en : Int) : Int := if 0 ≤ en ∧ en ≤ 1048576 ∧ ((l.length : Int) = 0 ↔ en = 0) ∧ sGo en 0 0 0 l then 0 else 5
section
variable {l : List DStart} {en le lf : Int} {k : Nat} {x : DStart}
theorem sCheck_arg (h : en < 0 ∨ 1048576 < en) : sCheck l en = 5 := if_neg (fun e => by omega)
theorem sCheck_len (h : ¬ decide ((l.length : Int) = 0) = decide (en = 0)) : sCheck l en = 5 := if_neg (fun e => h (decide_eq_decide.2 e.2.2.1))
theorem sGo_at (hx : l[k]? = some x) : sGo en le lf k (l.drop k) ↔ le < x.1 ∧ x.1 ≤ 1048576 ∧ lf < x.2 ∧ x.2 ≤ en ∧ (k = 0 → x.2 = 1) ∧ sGo en x.1 x.2 (k + 1) (l.drop (k + 1)) := by
  rw [drop_next hx]; rfl
theorem sGo_step (hx : l[k]? = some x) (h1 : le < x.1) (h2 : x.1 ≤ 1048576) (h3 : lf < x.2) (h4 : x.2 ≤ en) (h5 : k = 0 → x.2 = 1) : sGo en le lf k (l.drop k) ↔ sGo en x.1 x.2 (k + 1) (l.drop (k + 1)) := by
  rw [sGo_at hx]; exact ⟨fun h => h.2.2.2.2.2, fun h => ⟨h1, h2, h3, h4, h5, h⟩⟩
theorem sCheck_bad (hs : sGo en 0 0 0 l ↔ sGo en le lf k (l.drop k)) (hx : l[k]? = some x) (h : x.1 ≤ le ∨ 1048576 < x.1 ∨ x.2 ≤ lf ∨ en < x.2 ∨ (k = 0 ∧ ¬ x.2 = 1)) : sCheck l en = 5 := by
  refine if_neg (fun e => ?_)
  have := (sGo_at hx).1 (hs.1 e.2.2.2)
  obtain ⟨a, b, c, d, f, _⟩ := this
  rcases h with h | h | h | h | ⟨h, h'⟩
  · omega
  · omega
  · omega
  · omega
  · exact h' (f h)
theorem sCheck_good (h1 : 0 ≤ en) (h2 : en ≤ 1048576) (h3 : ¬ ¬ decide ((l.length : Int) = 0) = decide (en = 0)) (h : sGo en 0 0 0 l) : sCheck l en = 0 := if_pos ⟨h1, h2, decide_eq_decide.1 (Decidable.not_not.1 h3), h⟩
theorem sCheck_range (l : List DStart) (en : Int) : 0 ≤ sCheck l en ∧ sCheck l en ≤ 5 := by unfold sCheck; split <;> omega
end
def bareM (m : DMessage) : Prop := m.2.2.1 = 0 ∧ m.2.2.2.1 = 0 ∧ m.2.2.2.2.1.length = 0 ∧ m.2.2.2.2.2.1 = 0 ∧ m.2.2.2.2.2.2.1 = 0 ∧ m.2.2.2.2.2.2.2.length = 0
instance (m : DMessage) : Decidable (bareM m) := by unfold bareM; infer_instance
def lastOk (l : List DStart) (e : Int) : Bool := match l.getLast? with
  | some s => decide (s.1 ≤ e)
  | none => true
def helloM (m : DMessage) : Prop := (1 ≤ m.2.2.1 ∧ m.2.2.1 ≤ 3) ∧ sCheck m.2.2.2.2.1 m.2.2.2.1 = 0 ∧ lastOk m.2.2.2.2.1 m.2.1 = true ∧ m.2.2.2.2.2.1 = 0 ∧ m.2.2.2.2.2.2.1 = 0 ∧ m.2.2.2.2.2.2.2.length = 0
instance (m : DMessage) : Decidable (helloM m) := by unfold helloM; infer_instance
def shipM (m : DMessage) : Prop := (1 ≤ m.2.2.2.2.2.1 ∧ m.2.2.2.2.2.1 ≤ 1048576) ∧ (0 ≤ m.2.2.2.2.2.2.1 ∧ m.2.2.2.2.2.2.1 ≤ m.2.1) ∧ (m.2.2.2.2.2.2.1 = 0 ↔ m.2.2.2.2.2.1 = 1) ∧ m.2.2.2.2.2.2.2.length ≤ 4 ∧
  (cFollows m.2.2.2.2.2.2.1 (m.2.2.2.2.2.1 - 1) m.2.2.2.2.2.2.2).1 = 0 ∧ (∀ c ∈ m.2.2.2.2.2.2.2, c.1 ≤ m.2.1) ∧ m.2.2.1 = 0 ∧ m.2.2.2.1 = 0 ∧ m.2.2.2.2.1.length = 0
instance (m : DMessage) : Decidable (shipM m) := by unfold shipM; infer_instance
def ackM (m : DMessage) : Prop := (0 ≤ m.2.2.2.1 ∧ m.2.2.2.1 ≤ 1048576) ∧ m.2.2.1 = 0 ∧ m.2.2.2.2.1.length = 0 ∧ m.2.2.2.2.2.1 = 0 ∧ m.2.2.2.2.2.2.1 = 0 ∧ m.2.2.2.2.2.2.2.length = 0
instance (m : DMessage) : Decidable (ackM m) := by unfold ackM; infer_instance
def lCheck (m : DMessage) : Int := if (1 ≤ m.2.1 ∧ m.2.1 ≤ 1048576) ∧ ((m.1 = 1 ∧ helloM m) ∨ (m.1 = 2 ∧ shipM m) ∨ (m.1 = 3 ∧ ackM m)) then 0 else 2
theorem lCheck_good {m : DMessage} (h : (1 ≤ m.2.1 ∧ m.2.1 ≤ 1048576) ∧ ((m.1 = 1 ∧ helloM m) ∨ (m.1 = 2 ∧ shipM m) ∨ (m.1 = 3 ∧ ackM m))) : lCheck m = 0 := if_pos h
theorem lCheck_bad {m : DMessage} (h : ¬ ((1 ≤ m.2.1 ∧ m.2.1 ≤ 1048576) ∧ ((m.1 = 1 ∧ helloM m) ∨ (m.1 = 2 ∧ shipM m) ∨ (m.1 = 3 ∧ ackM m)))) : lCheck m = 2 := if_neg h
theorem lCheck_range (m : DMessage) : 0 ≤ lCheck m ∧ lCheck m ≤ 2 := by unfold lCheck; split <;> omega
theorem lastOk_of {l : List DStart} {e : Int} {k : Nat} {x : DStart} (hx : l[k]? = some x) (h0 : k + 1 = l.length) : lastOk l e = decide (x.1 ≤ e) := by
  unfold lastOk; rw [List.getLast?_eq_getElem?, show l.length - 1 = k by omega, hx]
theorem lastOk_nil {l : List DStart} {e : Int} (h0 : l.length = 0) : lastOk l e = true := by
  rw [List.eq_nil_of_length_eq_zero h0]; rfl
section
variable {m : DMessage}
theorem ack_iff (h : 0 ≤ m.2.2.2.1 ∧ m.2.2.2.1 ≤ 1048576) : bareM (m.1, m.2.1, m.2.2.1, 0, m.2.2.2.2.1, m.2.2.2.2.2.1, m.2.2.2.2.2.2.1, m.2.2.2.2.2.2.2) ↔ ackM m := by
  unfold ackM bareM; dsimp only; omega
theorem hello_iff (h1 : 1 ≤ m.2.2.1 ∧ m.2.2.1 ≤ 3) (h2 : sCheck m.2.2.2.2.1 m.2.2.2.1 = 0) (h3 : lastOk m.2.2.2.2.1 m.2.1 = true) : bareM (m.1, m.2.1, 0, 0, [], m.2.2.2.2.2.1, m.2.2.2.2.2.2.1, m.2.2.2.2.2.2.2) ↔ helloM m :=
  ⟨fun h => ⟨h1, h2, h3, h.2.2.2.1, h.2.2.2.2.1, h.2.2.2.2.2⟩, fun h => ⟨rfl, rfl, rfl, h.2.2.2.1, h.2.2.2.2.1, h.2.2.2.2.2⟩⟩
theorem ship_iff (h1 : 1 ≤ m.2.2.2.2.2.1 ∧ m.2.2.2.2.2.1 ≤ 1048576) (h2 : 0 ≤ m.2.2.2.2.2.2.1 ∧ m.2.2.2.2.2.2.1 ≤ m.2.1) (h3 : ¬ ¬ decide (m.2.2.2.2.2.2.1 = 0) = decide (m.2.2.2.2.2.1 = 1)) (h4 : m.2.2.2.2.2.2.2.length ≤ 4)
    (h5 : (cFollows m.2.2.2.2.2.2.1 (m.2.2.2.2.2.1 - 1) m.2.2.2.2.2.2.2).1 = 0) (h6 : ∀ c ∈ m.2.2.2.2.2.2.2, c.1 ≤ m.2.1) : bareM (m.1, m.2.1, m.2.2.1, m.2.2.2.1, m.2.2.2.2.1, 0, 0, []) ↔ shipM m :=
  ⟨fun h => ⟨h1, h2, decide_eq_decide.1 (Decidable.not_not.1 h3), h4, h5, h6, h.1, h.2.1, h.2.2.1⟩, fun h => ⟨h.2.2.2.2.2.2.1, h.2.2.2.2.2.2.2.1, h.2.2.2.2.2.2.2.2, rfl, rfl, rfl⟩⟩
theorem ship_len (h : ¬ decide (m.2.2.2.2.2.2.1 = 0) = decide (m.2.2.2.2.2.1 = 1)) : ¬ shipM m := fun e => h (decide_eq_decide.2 e.2.2.1)
theorem hello_last {k : Nat} {x : DStart} (hx : m.2.2.2.2.1[k]? = some x) (h0 : k + 1 = m.2.2.2.2.1.length) (h : m.2.1 < x.1) : ¬ helloM m := fun e => by
  have e3 := e.2.2.1
  rw [lastOk_of hx h0] at e3
  have := of_decide_eq_true e3
  omega
theorem lastOk_good {l : List DStart} {e : Int} {k : Nat} {x : DStart} (hx : l[k]? = some x) (h0 : k + 1 = l.length) (h : ¬ e < x.1) : lastOk l e = true := by
  rw [lastOk_of hx h0]; exact decide_eq_true (by omega)
end
end
section
set_option linter.unusedVariables false
set_option linter.unusedSimpArgs false
set_option maxRecDepth 4000
theorem fnOk36 : fnOk Try.prog 36 = true := by kernel_rfl
theorem fnOk37 : fnOk Try.prog 37 = true := by kernel_rfl
theorem fnOk38 : fnOk Try.prog 38 = true := by kernel_rfl
theorem fnOk39 : fnOk Try.prog 39 = true := by kernel_rfl
theorem fnOk68 : fnOk Try.prog 68 = true := by kernel_rfl
theorem fnOk69 : fnOk Try.prog 69 = true := by kernel_rfl
theorem fnOk70 : fnOk Try.prog 70 = true := by kernel_rfl
theorem fnOk71 : fnOk Try.prog 71 = true := by kernel_rfl
theorem tfk92_0 : ∀ F : Array Field, Try.prog.underlying 92 = some (.struct F) → ∀ f, F[0]? = some f → tk Try.prog f.type = some none := tfk_of (by kernel_rfl)
theorem tk26 : tk Try.prog 26 = some (some 8) := by kernel_rfl
theorem tk57 : tk Try.prog 57 = some (some 2) := by kernel_rfl
theorem tz57 : tz Try.prog 57 = some [.int .i64 0, .int .i64 0] := by kernel_rfl
theorem lwithin_ok (W : World) (d0 : Int) (h0 : inK .i64 d0) (d1 : Int) (h1 : inK .i64 d1) (d2 : Int) (h2 : inK .i64 d2) : CallR Try.prog 36 [.int .i64 d0, .int .i64 d1, .int .i64 d2] W (mnil) (fun v m' => v = .bool (decide (d1 ≤ d0 ∧ d0 ≤ d2))) := by
  have h0' := h0; simp only [inK] at h0'
  have h1' := h1; simp only [inK] at h1'
  have h2' := h2; simp only [inK] at h2'
  refine CallR.ofA (n := 15) Try.func36 rfl rfl rfl ?_
  refine VC.rs ?_
  refine VO.as ?_
  refine VO.k4 0 1 2 6 ?_
  refine VC.rs ?_
  refine VO.mv ?_
  refine VO.mv ?_
  refine VO.y rfl (.geq rfl rfl) ?_
  refine VO.mv ?_
  refine VO.dec (t := 10) rfl (fun hc1 => ?_) (fun hc1 => ?_)
  · -- T
    refine VO.gy rfl ⟨_, rfl, rfl⟩ (.mv rfl) ?_
    refine VO.gy rfl ⟨_, rfl, rfl⟩ (.mv rfl) ?_
    refine VO.gy rfl ⟨_, rfl, rfl⟩ (.leq rfl rfl) ?_
    refine VO.y rfl (.pT rfl rfl) ?_
    refine VO.as ?_
    refine VO.k4 0 1 2 6 ?_
    refine VC.ret ?_
    refine ⟨_, _, res_run (rs := [.tmp 6]) rfl (.tmp rfl .nil), fun W_ hI => out_of (l := []) hI [] rfl rfl (mle_refl _) (fun hS_ => ?_)⟩
    dsimp only [packV]
    all_goals (first | rfl | (first | exact congrArg Value.bool (decide_eq_false (by omega)).symm | exact congrArg Value.bool (decide_eq_decide.2 (by omega))))
  · -- F
    refine VO.gN ?_
    refine VO.gN ?_
    refine VO.gN ?_
    refine VO.y rfl (.pF rfl rfl) ?_
    refine VO.as ?_
    refine VO.k4 0 1 2 6 ?_
    refine VC.ret ?_
    refine ⟨_, _, res_run (rs := [.tmp 6]) rfl (.tmp rfl .nil), fun W_ hI => out_of (l := []) hI [] rfl rfl (mle_refl _) (fun hS_ => ?_)⟩
    dsimp only [packV]
    all_goals (first | rfl | (first | exact congrArg Value.bool (decide_eq_false (by omega)).symm | exact congrArg Value.bool (decide_eq_decide.2 (by omega))))
theorem lrole_ok (W : World) (d0 : Int) (h0 : inK .u8 d0) : CallR Try.prog 68 [.int .u8 d0] W (mnil) (fun v m' => v = .bool (decide (1 ≤ d0 ∧ d0 ≤ 3))) := by
  have h0' := h0; simp only [inK] at h0'
  refine CallR.ofA (n := 9) Try.func68 rfl rfl rfl ?_
  refine VC.rs ?_
  refine VO.as ?_
  refine VO.k2 0 2 ?_
  refine VC.rs ?_
  refine VO.mv ?_
  refine VO.y rfl (.geq rfl rfl) ?_
  refine VO.mv ?_
  refine VO.dec (t := 5) rfl (fun hc1 => ?_) (fun hc1 => ?_)
  · -- T
    refine VO.gy rfl ⟨_, rfl, rfl⟩ (.mv rfl) ?_
    refine VO.gy rfl ⟨_, rfl, rfl⟩ (.leq rfl rfl) ?_
    refine VO.y rfl (.pT rfl rfl) ?_
    refine VO.as ?_
    refine VO.k2 0 2 ?_
    refine VC.ret ?_
    refine ⟨_, _, res_run (rs := [.tmp 2]) rfl (.tmp rfl .nil), fun W_ hI => out_of (l := []) hI [] rfl rfl (mle_refl _) (fun hS_ => ?_)⟩
    dsimp only [packV]
    all_goals (first | rfl | (first | exact congrArg Value.bool (decide_eq_false (by omega)).symm | exact congrArg Value.bool (decide_eq_decide.2 (by omega))))
  · -- F
    refine VO.gN ?_
    refine VO.gN ?_
    refine VO.y rfl (.pF rfl rfl) ?_
    refine VO.as ?_
    refine VO.k2 0 2 ?_
    refine VC.ret ?_
    refine ⟨_, _, res_run (rs := [.tmp 2]) rfl (.tmp rfl .nil), fun W_ hI => out_of (l := []) hI [] rfl rfl (mle_refl _) (fun hS_ => ?_)⟩
    dsimp only [packV]
    all_goals (first | rfl | (first | exact congrArg Value.bool (decide_eq_false (by omega)).symm | exact congrArg Value.bool (decide_eq_decide.2 (by omega))))
theorem fin0_sCheck_ok {P : Prop} (h : P := by congr 1; first | exact (sCheck_arg (by omega)).symm | exact (sCheck_len ‹¬ decide _ = decide _›).symm | exact (sCheck_bad hs ‹d0[k]? = some _› (by omega)).symm | exact (sCheck_good (by omega) (by omega) ‹¬ ¬ decide _ = decide _› (hs.2 (by rw [List.drop_of_length_le (by omega)]; trivial))).symm) : P := h
theorem sCheck_ok (W : World) {v0 : Value} {d0 : List DStart} (h0 : Rd (.sl TStart) (wm W) [v0] d0) (d1 : Int) (h1 : inK .i64 d1) : CallR Try.prog 69 [v0, .int .i64 d1] W (mnil) (fun v m' => v = .int .i64 (sCheck d0 d1)) := by
  obtain ⟨A0, c0, rfl, l0, k0⟩ := h0.slice
  simp only [maxLen] at k0
  have h1' := h1; simp only [inK] at h1'
  refine CallR.ofA (n := 64) Try.func69 rfl rfl rfl ?_
  refine VC.rs ?_
  refine VO.as ?_
  refine VO.k3 0 1 4 ?_
  refine VC.seq ?_
  refine VC.rs ?_
  refine VO.mv ?_
  refine VO.y rfl (.lss rfl rfl) ?_
  refine VO.mv ?_
  refine VO.dec (t := 10) rfl (fun hc1 => ?_) (fun hc1 => ?_)
  · -- T
    refine VO.gN ?_
    refine VO.gN ?_
    refine VO.y rfl (.pT rfl rfl) ?_
    refine VO.mv ?_
    refine VO.gN ?_
    refine VO.gN ?_
    refine VO.gN ?_
    refine VO.gN ?_
    refine VO.gN ?_
    refine VO.gN ?_
    refine VO.y rfl (.pT rfl rfl) ?_
    refine VO.k4 0 1 4 21 ?_
    refine VC.condT rfl ?_
    refine VC.rs ?_
    refine VO.as ?_
    refine VO.keep [0] [(0, wm W)] (by kernel_rfl) ?_
    refine VO.k4 0 1 4 21 ?_
    refine VC.ret ?_
    refine outR ?_
    refine ⟨_, _, res_run (rs := [.tmp 4]) rfl (.tmp rfl .nil), fun W_ hI => out_of (l := []) hI [] rfl rfl (mle_refl _) (fun hS_ => ?_)⟩
    dsimp only [packV]
    all_goals (first | rfl | (exact fin0_sCheck_ok))
  · -- F
    refine VO.gy rfl ⟨_, rfl, rfl⟩ (.mv rfl) ?_
    refine VO.gy rfl ⟨_, rfl, rfl⟩ (.gtr rfl rfl) ?_
    refine VO.y rfl (.pF rfl rfl) ?_
    refine VO.mv ?_
    refine VO.dec (t := 14) rfl (fun hc2 => ?_) (fun hc2 => ?_)
    · -- FT
      refine VO.gN ?_
      refine VO.gN ?_
      refine VO.gN ?_
      refine VO.gN ?_
      refine VO.gN ?_
      refine VO.gN ?_
      refine VO.y rfl (.pT rfl rfl) ?_
      refine VO.k4 0 1 4 21 ?_
      refine VC.condT rfl ?_
      refine VC.rs ?_
      refine VO.as ?_
      refine VO.keep [0] [(0, wm W)] (by kernel_rfl) ?_
      refine VO.k4 0 1 4 21 ?_
      refine VC.ret ?_
      refine outR ?_
      refine ⟨_, _, res_run (rs := [.tmp 4]) rfl (.tmp rfl .nil), fun W_ hI => out_of (l := []) hI [] rfl rfl (mle_refl _) (fun hS_ => ?_)⟩
      dsimp only [packV]
      all_goals (first | rfl | (exact fin0_sCheck_ok))
    · -- FF
      refine VO.gy rfl ⟨_, rfl, rfl⟩ (.mv rfl) ?_
      refine VO.gy rfl ⟨_, rfl, rfl⟩ (.lenS rfl tsl23) ?_
      refine VO.gy rfl ⟨_, rfl, rfl⟩ (.eql rfl rfl) ?_
      refine VO.gy rfl ⟨_, rfl, rfl⟩ (.mv rfl) ?_
      refine VO.gy rfl ⟨_, rfl, rfl⟩ (.eql rfl rfl) ?_
      refine VO.gy rfl ⟨_, rfl, rfl⟩ (.bneq rfl rfl Try.underlying4) ?_
      refine VO.y rfl (.pF rfl rfl) ?_
      refine VO.k4 0 1 4 21 ?_
      refine VC.cond rfl (fun hc3 => ?_) (fun hc3 => ?_)
      · -- FFT
        refine VC.rs ?_
        refine VO.as ?_
        refine VO.keep [0] [(0, wm W)] (by kernel_rfl) ?_
        refine VO.k4 0 1 4 21 ?_
        refine VC.ret ?_
        refine outR ?_
        refine ⟨_, _, res_run (rs := [.tmp 4]) rfl (.tmp rfl .nil), fun W_ hI => out_of (l := []) hI [] rfl rfl (mle_refl _) (fun hS_ => ?_)⟩
        dsimp only [packV]
        all_goals (first | rfl | (exact fin0_sCheck_ok))
      · -- FFF
        refine VC.skip ?_
        refine outN ?_
        refine VC.rs ?_
        refine VO.y rfl (.bst (cs := [Value.int .i64 (0), Value.int .i64 (0)]) rfl tst57 tz57 rfl) ?_
        refine VO.alloc 105 rfl tz57 (fun g4 => ?_)
        refine VO.store (k := 2) (c' := [Value.int .i64 (0), Value.int .i64 (0)]) 105 rfl rfl (.inl tk57) rfl rfl rfl rfl rfl ?_
        refine VO.keep [105, 0] [(105, mone g4 (.cells [Value.int .i64 (0), Value.int .i64 (0)].toArray 57 (0, 0))), (0, wm W)] (by kernel_rfl) ?_
        refine VO.k5 0 1 4 5 21 ?_
        refine VC.seq ?_
        refine VC.rs ?_
        refine VO.mv ?_
        refine VO.y rfl (.lenS rfl tsl23) ?_
        refine VO.mv ?_
        refine VO.k8 0 1 4 5 21 23 24 25 ?_
        refine VC.block ?_
        refine VC.loop (G := Nat × Int × Int) (fun g => [(25, Value.int .i64 ((((g.1) : Nat) : Int))), (0, Value.slice A0 (d0.length) (c0)), (1, Value.int .i64 (d1)), (5, Value.pointer (some ⟨g4, 0, none⟩)), (21, Value.bool (decide (¬ (decide (((d0.length : Nat) : Int) = 0)) = (decide (d1 = 0))))), (23, Value.slice A0 (d0.length) (c0)), (24, Value.int .i64 (((d0.length : Nat) : Int)))]) (fun g => [(105, mone g4 (.cells [Value.int .i64 ((g.2.1)), Value.int .i64 ((g.2.2))].toArray 57 (0, 0))), (0, wm W)]) (fun g => ((g.1) ≤ d0.length) ∧ (sGo d1 0 0 0 d0 ↔ sGo d1 (g.2.1) (g.2.2) (g.1) (d0.drop (g.1)))) (fun g => d0.length - (g.1)) (0, 0, 0) (⟨by omega, by exact Iff.rfl⟩) ⟨⟨rfl, rfl, rfl, rfl, rfl, rfl, rfl, trivial⟩, fun _ h => h.sub [105, 0]⟩ ?_
        rintro ⟨k, le, lf⟩ ⟨hk, hs⟩
        replace hk : k ≤ d0.length := hk
        replace hs : sGo d1 0 0 0 d0 ↔ sGo d1 le lf k (d0.drop k) := hs
        show VC _ _ _ _ _ [(25, Value.int .i64 (((k : Nat) : Int))), (0, Value.slice A0 (d0.length) (c0)), (1, Value.int .i64 (d1)), (5, Value.pointer (some ⟨g4, 0, none⟩)), (21, Value.bool (decide (¬ (decide (((d0.length : Nat) : Int) = 0)) = (decide (d1 = 0))))), (23, Value.slice A0 (d0.length) (c0)), (24, Value.int .i64 (((d0.length : Nat) : Int)))] [(105, mone g4 (.cells [Value.int .i64 (le), Value.int .i64 (lf)].toArray 57 (0, 0))), (0, wm W)]
        refine VC.rs ?_
        refine VO.y rfl (.lss rfl rfl) ?_
        refine VO.k8 0 1 5 21 23 24 25 26 ?_
        refine VC.seq ?_
        refine VC.cond rfl (fun hc6 => ?_) (fun hc6 => ?_)
        · -- FFFT
          refine VC.skip ?_
          refine outN ?_
          refine VC.seq ?_
          refine VC.block ?_
          refine VC.rs ?_
          refine VO.mv ?_
          obtain ⟨x7, hx7⟩ : ∃ z_, (d0)[k]? = some z_ := ⟨_, List.getElem?_eq_getElem bd⟩
          obtain ⟨gg7, oo7, ec7, ea7, hce7, hre7⟩ := h0.elem hx7
          cases ea7
          obtain ⟨rfl, q7_0, q7_1⟩ := open_Start (x0 := x7.1) (x1 := x7.2) hre7
          simp only [inK] at q7_0
          simp only [inK] at q7_1
          refine VO.y rfl (.ixI k rfl rfl tsl23 rfl bd) ?_
          refine VO.y rfl (.ldA 0 rfl tk57 rfl hce7) ?_
          refine VO.alloc 109 rfl tz57 (fun g8 => ?_)
          refine VO.as ?_
          refine VO.store (k := 2) (c' := [Value.int .i64 (x7.1), Value.int .i64 (x7.2)]) 109 rfl rfl (.inl tk57) rfl rfl rfl rfl rfl ?_
          refine VO.keep [109, 105, 0] [(109, mone g8 (.cells [Value.int .i64 (x7.1), Value.int .i64 (x7.2)].toArray 57 (0, 0))), (105, mone g4 (.cells [Value.int .i64 (le), Value.int .i64 (lf)].toArray 57 (0, 0))), (0, wm W)] (by kernel_rfl) ?_
          refine VO.k10 0 1 5 6 7 21 23 24 25 26 ?_
          refine VC.seq ?_
          refine VC.rs ?_
          refine VO.y rfl (.fa rfl tst57 rfl) ?_
          refine VO.y rfl (.ld1 109 rfl tk3 rfl (cellsAt_one rfl rfl)) ?_
          refine VO.y rfl (.fa rfl tst57 rfl) ?_
          refine VO.y rfl (.ld1 105 rfl tk3 rfl (cellsAt_one rfl rfl)) ?_
          refine VO.y rfl (.leq rfl rfl) ?_
          refine VO.mv ?_
          refine VO.dec (t := 35) rfl (fun hc10 => ?_) (fun hc10 => ?_)
          · -- FFFTT
            refine VO.gN ?_
            refine VO.gN ?_
            refine VO.gN ?_
            refine VO.y rfl (.pT rfl rfl) ?_
            refine VO.mv ?_
            refine VO.gN ?_
            refine VO.gN ?_
            refine VO.gN ?_
            refine VO.gN ?_
            refine VO.gN ?_
            refine VO.y rfl (.pT rfl rfl) ?_
            refine VO.mv ?_
            refine VO.gN ?_
            refine VO.gN ?_
            refine VO.gN ?_
            refine VO.gN ?_
            refine VO.y rfl (.pT rfl rfl) ?_
            refine VO.mv ?_
            refine VO.gN ?_
            refine VO.gN ?_
            refine VO.gN ?_
            refine VO.gn rfl (.inr ⟨_, rfl, rfl⟩) ?_
            refine VO.gn rfl (.inr ⟨_, rfl, rfl⟩) ?_
            refine VO.gn rfl (.inr ⟨_, rfl, rfl⟩) ?_
            refine VO.gN ?_
            refine VO.y rfl (.pT rfl rfl) ?_
            refine VO.k11 0 1 5 6 7 21 23 24 25 26 61 ?_
            refine VC.condT rfl ?_
            refine VC.rs ?_
            refine VO.as ?_
            refine VO.k12 0 1 4 5 6 7 21 23 24 25 26 61 ?_
            refine VC.ret ?_
            refine outR ?_
            refine outBR ?_
            refine outR ?_
            refine outR ?_
            refine outBR ?_
            refine outR ?_
            refine ⟨_, _, res_run (rs := [.tmp 4]) rfl (.tmp rfl .nil), fun W_ hI => out_of (l := []) hI [] rfl rfl (mle_refl _) (fun hS_ => ?_)⟩
            dsimp only [packV]
            all_goals (first | rfl | (exact fin0_sCheck_ok))
          · -- FFFTF
            refine VO.gy rfl ⟨_, rfl, rfl⟩ (.fa rfl tst57 rfl) ?_
            refine VO.gy rfl ⟨_, rfl, rfl⟩ (.ld1 109 rfl tk3 rfl (cellsAt_one rfl rfl)) ?_
            refine VO.gy rfl ⟨_, rfl, rfl⟩ (.gtr rfl rfl) ?_
            refine VO.y rfl (.pF rfl rfl) ?_
            refine VO.mv ?_
            refine VO.dec (t := 40) rfl (fun hc11 => ?_) (fun hc11 => ?_)
            · -- FFFTFT
              refine VO.gN ?_
              refine VO.gN ?_
              refine VO.gN ?_
              refine VO.gN ?_
              refine VO.gN ?_
              refine VO.y rfl (.pT rfl rfl) ?_
              refine VO.mv ?_
              refine VO.gN ?_
              refine VO.gN ?_
              refine VO.gN ?_
              refine VO.gN ?_
              refine VO.y rfl (.pT rfl rfl) ?_
              refine VO.mv ?_
              refine VO.gN ?_
              refine VO.gN ?_
              refine VO.gN ?_
              refine VO.gn rfl (.inr ⟨_, rfl, rfl⟩) ?_
              refine VO.gn rfl (.inr ⟨_, rfl, rfl⟩) ?_
              refine VO.gn rfl (.inr ⟨_, rfl, rfl⟩) ?_
              refine VO.gN ?_
              refine VO.y rfl (.pT rfl rfl) ?_
              refine VO.k11 0 1 5 6 7 21 23 24 25 26 61 ?_
              refine VC.condT rfl ?_
              refine VC.rs ?_
              refine VO.as ?_
              refine VO.k12 0 1 4 5 6 7 21 23 24 25 26 61 ?_
              refine VC.ret ?_
              refine outR ?_
              refine outBR ?_
              refine outR ?_
              refine outR ?_
              refine outBR ?_
              refine outR ?_
              refine ⟨_, _, res_run (rs := [.tmp 4]) rfl (.tmp rfl .nil), fun W_ hI => out_of (l := []) hI [] rfl rfl (mle_refl _) (fun hS_ => ?_)⟩
              dsimp only [packV]
              all_goals (first | rfl | (exact fin0_sCheck_ok))
            · -- FFFTFF
              refine VO.gy rfl ⟨_, rfl, rfl⟩ (.fa rfl tst57 rfl) ?_
              refine VO.gy rfl ⟨_, rfl, rfl⟩ (.ld1 109 rfl tk3 rfl (cellsAt_one rfl rfl)) ?_
              refine VO.gy rfl ⟨_, rfl, rfl⟩ (.fa rfl tst57 rfl) ?_
              refine VO.gy rfl ⟨_, rfl, rfl⟩ (.ld1 105 rfl tk3 rfl (cellsAt_one rfl rfl)) ?_
              refine VO.gy rfl ⟨_, rfl, rfl⟩ (.leq rfl rfl) ?_
              refine VO.y rfl (.pF rfl rfl) ?_
              refine VO.mv ?_
              refine VO.dec (t := 47) rfl (fun hc12 => ?_) (fun hc12 => ?_)
              · -- FFFTFFT
                refine VO.gN ?_
                refine VO.gN ?_
                refine VO.gN ?_
                refine VO.gN ?_
                refine VO.y rfl (.pT rfl rfl) ?_
                refine VO.mv ?_
                refine VO.gN ?_
                refine VO.gN ?_
                refine VO.gN ?_
                refine VO.gn rfl (.inr ⟨_, rfl, rfl⟩) ?_
                refine VO.gn rfl (.inr ⟨_, rfl, rfl⟩) ?_
                refine VO.gn rfl (.inr ⟨_, rfl, rfl⟩) ?_
                refine VO.gN ?_
                refine VO.y rfl (.pT rfl rfl) ?_
                refine VO.k11 0 1 5 6 7 21 23 24 25 26 61 ?_
                refine VC.condT rfl ?_
                refine VC.rs ?_
                refine VO.as ?_
                refine VO.k12 0 1 4 5 6 7 21 23 24 25 26 61 ?_
                refine VC.ret ?_
                refine outR ?_
                refine outBR ?_
                refine outR ?_
                refine outR ?_
                refine outBR ?_
                refine outR ?_
                refine ⟨_, _, res_run (rs := [.tmp 4]) rfl (.tmp rfl .nil), fun W_ hI => out_of (l := []) hI [] rfl rfl (mle_refl _) (fun hS_ => ?_)⟩
                dsimp only [packV]
                all_goals (first | rfl | (exact fin0_sCheck_ok))
              · -- FFFTFFF
                refine VO.gy rfl ⟨_, rfl, rfl⟩ (.fa rfl tst57 rfl) ?_
                refine VO.gy rfl ⟨_, rfl, rfl⟩ (.ld1 109 rfl tk3 rfl (cellsAt_one rfl rfl)) ?_
                refine VO.gy rfl ⟨_, rfl, rfl⟩ (.mv rfl) ?_
                refine VO.gy rfl ⟨_, rfl, rfl⟩ (.gtr rfl rfl) ?_
                refine VO.y rfl (.pF rfl rfl) ?_
                refine VO.mv ?_
                refine VO.dec (t := 53) rfl (fun hc13 => ?_) (fun hc13 => ?_)
                · -- FFFTFFFT
                  refine VO.gN ?_
                  refine VO.gN ?_
                  refine VO.gN ?_
                  refine VO.gn rfl (.inr ⟨_, rfl, rfl⟩) ?_
                  refine VO.gn rfl (.inr ⟨_, rfl, rfl⟩) ?_
                  refine VO.gn rfl (.inr ⟨_, rfl, rfl⟩) ?_
                  refine VO.gN ?_
                  refine VO.y rfl (.pT rfl rfl) ?_
                  refine VO.k11 0 1 5 6 7 21 23 24 25 26 61 ?_
                  refine VC.condT rfl ?_
                  refine VC.rs ?_
                  refine VO.as ?_
                  refine VO.k12 0 1 4 5 6 7 21 23 24 25 26 61 ?_
                  refine VC.ret ?_
                  refine outR ?_
                  refine outBR ?_
                  refine outR ?_
                  refine outR ?_
                  refine outBR ?_
                  refine outR ?_
                  refine ⟨_, _, res_run (rs := [.tmp 4]) rfl (.tmp rfl .nil), fun W_ hI => out_of (l := []) hI [] rfl rfl (mle_refl _) (fun hS_ => ?_)⟩
                  dsimp only [packV]
                  all_goals (first | rfl | (exact fin0_sCheck_ok))
                · -- FFFTFFFF
                  refine VO.gy rfl ⟨_, rfl, rfl⟩ (.mv rfl) ?_
                  refine VO.gy rfl ⟨_, rfl, rfl⟩ (.eql rfl rfl) ?_
                  refine VO.gy rfl ⟨_, rfl, rfl⟩ (.mv rfl) ?_
                  refine VO.dec (t := 56) rfl (fun hc14 => ?_) (fun hc14 => ?_)
                  · -- FFFTFFFFT
                    refine VO.gy rfl ⟨_, rfl, rfl⟩ (.fa rfl tst57 rfl) ?_
                    refine VO.gy rfl ⟨_, rfl, rfl⟩ (.ld1 109 rfl tk3 rfl (cellsAt_one rfl rfl)) ?_
                    refine VO.gy rfl ⟨_, rfl, rfl⟩ (.neq rfl rfl) ?_
                    refine VO.gy rfl ⟨_, rfl, rfl⟩ (.pT rfl rfl) ?_
                    refine VO.y rfl (.pF rfl rfl) ?_
                    refine VO.k11 0 1 5 6 7 21 23 24 25 26 61 ?_
                    refine VC.cond rfl (fun hc15 => ?_) (fun hc15 => ?_)
                    · -- FFFTFFFFTT
                      refine VC.rs ?_
                      refine VO.as ?_
                      refine VO.k12 0 1 4 5 6 7 21 23 24 25 26 61 ?_
                      refine VC.ret ?_
                      refine outR ?_
                      refine outBR ?_
                      refine outR ?_
                      refine outR ?_
                      refine outBR ?_
                      refine outR ?_
                      refine ⟨_, _, res_run (rs := [.tmp 4]) rfl (.tmp rfl .nil), fun W_ hI => out_of (l := []) hI [] rfl rfl (mle_refl _) (fun hS_ => ?_)⟩
                      dsimp only [packV]
                      all_goals (first | rfl | (exact fin0_sCheck_ok))
                    · -- FFFTFFFFTF
                      refine VC.skip ?_
                      refine outN ?_
                      refine VC.reg ?_
                      refine VO.y rfl (.ldA 109 rfl tk57 rfl (cellsAt_one rfl rfl)) ?_
                      refine VO.store (k := 2) (c' := [Value.int .i64 (x7.1), Value.int .i64 (x7.2)]) 105 rfl rfl (.inl tk57) rfl rfl rfl rfl rfl ?_
                      refine VO.k11 0 1 5 6 7 21 23 24 25 26 61 ?_
                      refine outBN ?_
                      refine outN ?_
                      refine VC.reg ?_
                      refine VO.y rfl (.add (c := ((k + 1 : Nat) : Int)) rfl rfl (by omega) ⟨bd, bd⟩) ?_
                      refine VO.mv ?_
                      refine VO.keep [109, 105, 0] [(109, mone g8 (.cells [Value.int .i64 (x7.1), Value.int .i64 (x7.2)].toArray 57 (0, 0))), (105, mone g4 (.cells [Value.int .i64 (x7.1), Value.int .i64 (x7.2)].toArray 57 (0, 0))), (0, wm W)] (by kernel_rfl) ?_
                      refine VO.k11 0 1 5 6 7 21 23 24 25 26 61 ?_
                      exact outN ⟨⟨k + 1, x7.1, x7.2⟩, ⟨by omega, by dsimp only; exact hs.trans (sGo_step ‹d0[k]? = some _› (by omega) (by omega) (by omega) (by omega) (by omega))⟩, bd, ⟨⟨rfl, rfl, rfl, rfl, rfl, rfl, rfl, trivial⟩, fun _ h => Inv.sub h [105, 0]⟩⟩
                  · -- FFFTFFFFF
                    refine VO.gN ?_
                    refine VO.gN ?_
                    refine VO.gN ?_
                    refine VO.gy rfl ⟨_, rfl, rfl⟩ (.pF rfl rfl) ?_
                    refine VO.y rfl (.pF rfl rfl) ?_
                    refine VO.k11 0 1 5 6 7 21 23 24 25 26 61 ?_
                    refine VC.condF rfl ?_
                    refine VC.skip ?_
                    refine outN ?_
                    refine VC.reg ?_
                    refine VO.y rfl (.ldA 109 rfl tk57 rfl (cellsAt_one rfl rfl)) ?_
                    refine VO.store (k := 2) (c' := [Value.int .i64 (x7.1), Value.int .i64 (x7.2)]) 105 rfl rfl (.inl tk57) rfl rfl rfl rfl rfl ?_
                    refine VO.k11 0 1 5 6 7 21 23 24 25 26 61 ?_
                    refine outBN ?_
                    refine outN ?_
                    refine VC.reg ?_
                    refine VO.y rfl (.add (c := ((k + 1 : Nat) : Int)) rfl rfl (by omega) ⟨bd, bd⟩) ?_
                    refine VO.mv ?_
                    refine VO.keep [109, 105, 0] [(109, mone g8 (.cells [Value.int .i64 (x7.1), Value.int .i64 (x7.2)].toArray 57 (0, 0))), (105, mone g4 (.cells [Value.int .i64 (x7.1), Value.int .i64 (x7.2)].toArray 57 (0, 0))), (0, wm W)] (by kernel_rfl) ?_
                    refine VO.k11 0 1 5 6 7 21 23 24 25 26 61 ?_
                    exact outN ⟨⟨k + 1, x7.1, x7.2⟩, ⟨by omega, by dsimp only; exact hs.trans (sGo_step ‹d0[k]? = some _› (by omega) (by omega) (by omega) (by omega) (by omega))⟩, bd, ⟨⟨rfl, rfl, rfl, rfl, rfl, rfl, rfl, trivial⟩, fun _ h => Inv.sub h [105, 0]⟩⟩
        · -- FFFF
          refine VC.exit ?_
          refine outE ?_
          refine outE ?_
          refine outBB ?_
          refine outN ?_
          refine VC.rs ?_
          refine VO.as ?_
          refine VO.keep [105, 0] [(105, mone g4 (.cells [Value.int .i64 (le), Value.int .i64 (lf)].toArray 57 (0, 0))), (0, wm W)] (by kernel_rfl) ?_
          refine VO.k9 0 1 4 5 21 23 24 25 26 ?_
          refine VC.ret ?_
          refine ⟨_, _, res_run (rs := [.tmp 4]) rfl (.tmp rfl .nil), fun W_ hI => out_of (l := []) hI [] rfl rfl (mle_refl _) (fun hS_ => ?_)⟩
          dsimp only [packV]
          all_goals (first | rfl | (exact fin0_sCheck_ok))
theorem bare_ok (W : World) {v0 : List Value} {d0 : DMessage} (h0 : Rd TMessage (wm W) v0 d0) : CallR Try.prog 70 [.agg v0.toArray] W (mnil) (fun v m' => v = .bool (decide (bareM d0))) := by
  obtain ⟨p0_A4, p0_c4, p0_A7, p0_c7, rfl, p0_0, p0_1, p0_2, p0_3, p0_4, p0_5, p0_6, p0_7⟩ := open_Message (x0 := d0.1) (x1 := d0.2.1) (x2 := d0.2.2.1) (x3 := d0.2.2.2.1) (x4 := d0.2.2.2.2.1) (x5 := d0.2.2.2.2.2.1) (x6 := d0.2.2.2.2.2.2.1) (x7 := d0.2.2.2.2.2.2.2) h0
  simp only [inK] at p0_0
  simp only [inK] at p0_1
  simp only [inK] at p0_2
  simp only [inK] at p0_3
  have p0_r4 := Rd.room p0_4
  simp only [inK] at p0_5
  simp only [inK] at p0_6
  have p0_r7 := Rd.room p0_7
  refine CallR.ofA (n := 33) Try.func70 rfl rfl rfl ?_
  refine VC.rs ?_
  refine VO.box (cs := [Value.int .i64 (d0.1), Value.int .i64 (d0.2.1), Value.int .u8 (d0.2.2.1), Value.int .i64 (d0.2.2.2.1), Value.slice p0_A4 (d0.2.2.2.2.1.length) (p0_c4), Value.int .i64 (d0.2.2.2.2.2.1), Value.int .i64 (d0.2.2.2.2.2.2.1), Value.slice p0_A7 (d0.2.2.2.2.2.2.2.length) (p0_c7)]) 102 rfl rfl rfl (fun g1 => ?_)
  refine VO.as ?_
  refine VO.k3 0 1 2 ?_
  refine VC.rs ?_
  refine VO.y rfl (.fa rfl tst26 rfl) ?_
  refine VO.y rfl (.ld1 102 rfl tk22 rfl (cellsAt_one rfl rfl)) ?_
  refine VO.y rfl (.eql rfl rfl) ?_
  refine VO.mv ?_
  refine VO.dec (t := 6) rfl (fun hc3 => ?_) (fun hc3 => ?_)
  · -- T
    refine VO.gy rfl ⟨_, rfl, rfl⟩ (.fa rfl tst26 rfl) ?_
    refine VO.gy rfl ⟨_, rfl, rfl⟩ (.ld1 102 rfl tk3 rfl (cellsAt_one rfl rfl)) ?_
    refine VO.gy rfl ⟨_, rfl, rfl⟩ (.eql rfl rfl) ?_
    refine VO.y rfl (.pT rfl rfl) ?_
    refine VO.mv ?_
    refine VO.dec (t := 11) rfl (fun hc4 => ?_) (fun hc4 => ?_)
    · -- TT
      refine VO.gy rfl ⟨_, rfl, rfl⟩ (.fa rfl tst26 rfl) ?_
      refine VO.gy rfl ⟨_, rfl, rfl⟩ (.ld1 102 rfl tk23 rfl (cellsAt_one rfl rfl)) ?_
      refine VO.gy rfl ⟨_, rfl, rfl⟩ (.lenS rfl tsl23) ?_
      refine VO.gy rfl ⟨_, rfl, rfl⟩ (.eql rfl rfl) ?_
      refine VO.y rfl (.pT rfl rfl) ?_
      refine VO.mv ?_
      refine VO.dec (t := 17) rfl (fun hc5 => ?_) (fun hc5 => ?_)
      · -- TTT
        refine VO.gy rfl ⟨_, rfl, rfl⟩ (.fa rfl tst26 rfl) ?_
        refine VO.gy rfl ⟨_, rfl, rfl⟩ (.ld1 102 rfl tk3 rfl (cellsAt_one rfl rfl)) ?_
        refine VO.gy rfl ⟨_, rfl, rfl⟩ (.eql rfl rfl) ?_
        refine VO.y rfl (.pT rfl rfl) ?_
        refine VO.mv ?_
        refine VO.dec (t := 22) rfl (fun hc6 => ?_) (fun hc6 => ?_)
        · -- TTTT
          refine VO.gy rfl ⟨_, rfl, rfl⟩ (.fa rfl tst26 rfl) ?_
          refine VO.gy rfl ⟨_, rfl, rfl⟩ (.ld1 102 rfl tk3 rfl (cellsAt_one rfl rfl)) ?_
          refine VO.gy rfl ⟨_, rfl, rfl⟩ (.eql rfl rfl) ?_
          refine VO.y rfl (.pT rfl rfl) ?_
          refine VO.mv ?_
          refine VO.dec (t := 27) rfl (fun hc7 => ?_) (fun hc7 => ?_)
          · -- TTTTT
            refine VO.gy rfl ⟨_, rfl, rfl⟩ (.fa rfl tst26 rfl) ?_
            refine VO.gy rfl ⟨_, rfl, rfl⟩ (.ld1 102 rfl tk24 rfl (cellsAt_one rfl rfl)) ?_
            refine VO.gy rfl ⟨_, rfl, rfl⟩ (.lenS rfl tsl24) ?_
            refine VO.gy rfl ⟨_, rfl, rfl⟩ (.eql rfl rfl) ?_
            refine VO.y rfl (.pT rfl rfl) ?_
            refine VO.as ?_
            refine VO.k3 0 1 2 ?_
            refine VC.ret ?_
            refine ⟨_, _, res_run (rs := [.tmp 2]) rfl (.tmp rfl .nil), fun W_ hI => out_of (l := []) hI [] rfl rfl (mle_refl _) (fun hS_ => ?_)⟩
            dsimp only [packV]
            all_goals (first | rfl | (first | exact congrArg Value.bool (decide_eq_false (by unfold bareM; omega)).symm | exact congrArg Value.bool (decide_eq_decide.2 (by unfold bareM; omega))))
          · -- TTTTF
            refine VO.gN ?_
            refine VO.gN ?_
            refine VO.gN ?_
            refine VO.gN ?_
            refine VO.y rfl (.pF rfl rfl) ?_
            refine VO.as ?_
            refine VO.k3 0 1 2 ?_
            refine VC.ret ?_
            refine ⟨_, _, res_run (rs := [.tmp 2]) rfl (.tmp rfl .nil), fun W_ hI => out_of (l := []) hI [] rfl rfl (mle_refl _) (fun hS_ => ?_)⟩
            dsimp only [packV]
            all_goals (first | rfl | (first | exact congrArg Value.bool (decide_eq_false (by unfold bareM; omega)).symm | exact congrArg Value.bool (decide_eq_decide.2 (by unfold bareM; omega))))
        · -- TTTF
          refine VO.gN ?_
          refine VO.gN ?_
          refine VO.gN ?_
          refine VO.y rfl (.pF rfl rfl) ?_
          refine VO.mv ?_
          refine VO.gN ?_
          refine VO.gN ?_
          refine VO.gN ?_
          refine VO.gN ?_
          refine VO.y rfl (.pF rfl rfl) ?_
          refine VO.as ?_
          refine VO.k3 0 1 2 ?_
          refine VC.ret ?_
          refine ⟨_, _, res_run (rs := [.tmp 2]) rfl (.tmp rfl .nil), fun W_ hI => out_of (l := []) hI [] rfl rfl (mle_refl _) (fun hS_ => ?_)⟩
          dsimp only [packV]
          all_goals (first | rfl | (first | exact congrArg Value.bool (decide_eq_false (by unfold bareM; omega)).symm | exact congrArg Value.bool (decide_eq_decide.2 (by unfold bareM; omega))))
      · -- TTF
        refine VO.gN ?_
        refine VO.gN ?_
        refine VO.gN ?_
        refine VO.y rfl (.pF rfl rfl) ?_
        refine VO.mv ?_
        refine VO.gN ?_
        refine VO.gN ?_
        refine VO.gN ?_
        refine VO.y rfl (.pF rfl rfl) ?_
        refine VO.mv ?_
        refine VO.gN ?_
        refine VO.gN ?_
        refine VO.gN ?_
        refine VO.gN ?_
        refine VO.y rfl (.pF rfl rfl) ?_
        refine VO.as ?_
        refine VO.k3 0 1 2 ?_
        refine VC.ret ?_
        refine ⟨_, _, res_run (rs := [.tmp 2]) rfl (.tmp rfl .nil), fun W_ hI => out_of (l := []) hI [] rfl rfl (mle_refl _) (fun hS_ => ?_)⟩
        dsimp only [packV]
        all_goals (first | rfl | (first | exact congrArg Value.bool (decide_eq_false (by unfold bareM; omega)).symm | exact congrArg Value.bool (decide_eq_decide.2 (by unfold bareM; omega))))
    · -- TF
      refine VO.gN ?_
      refine VO.gN ?_
      refine VO.gN ?_
      refine VO.gN ?_
      refine VO.y rfl (.pF rfl rfl) ?_
      refine VO.mv ?_
      refine VO.gN ?_
      refine VO.gN ?_
      refine VO.gN ?_
      refine VO.y rfl (.pF rfl rfl) ?_
      refine VO.mv ?_
      refine VO.gN ?_
      refine VO.gN ?_
      refine VO.gN ?_
      refine VO.y rfl (.pF rfl rfl) ?_
      refine VO.mv ?_
      refine VO.gN ?_
      refine VO.gN ?_
      refine VO.gN ?_
      refine VO.gN ?_
      refine VO.y rfl (.pF rfl rfl) ?_
      refine VO.as ?_
      refine VO.k3 0 1 2 ?_
      refine VC.ret ?_
      refine ⟨_, _, res_run (rs := [.tmp 2]) rfl (.tmp rfl .nil), fun W_ hI => out_of (l := []) hI [] rfl rfl (mle_refl _) (fun hS_ => ?_)⟩
      dsimp only [packV]
      all_goals (first | rfl | (first | exact congrArg Value.bool (decide_eq_false (by unfold bareM; omega)).symm | exact congrArg Value.bool (decide_eq_decide.2 (by unfold bareM; omega))))
  · -- F
    refine VO.gN ?_
    refine VO.gN ?_
    refine VO.gN ?_
    refine VO.y rfl (.pF rfl rfl) ?_
    refine VO.mv ?_
    refine VO.gN ?_
    refine VO.gN ?_
    refine VO.gN ?_
    refine VO.gN ?_
    refine VO.y rfl (.pF rfl rfl) ?_
    refine VO.mv ?_
    refine VO.gN ?_
    refine VO.gN ?_
    refine VO.gN ?_
    refine VO.y rfl (.pF rfl rfl) ?_
    refine VO.mv ?_
    refine VO.gN ?_
    refine VO.gN ?_
    refine VO.gN ?_
    refine VO.y rfl (.pF rfl rfl) ?_
    refine VO.mv ?_
    refine VO.gN ?_
    refine VO.gN ?_
    refine VO.gN ?_
    refine VO.gN ?_
    refine VO.y rfl (.pF rfl rfl) ?_
    refine VO.as ?_
    refine VO.k3 0 1 2 ?_
    refine VC.ret ?_
    refine ⟨_, _, res_run (rs := [.tmp 2]) rfl (.tmp rfl .nil), fun W_ hI => out_of (l := []) hI [] rfl rfl (mle_refl _) (fun hS_ => ?_)⟩
    dsimp only [packV]
    all_goals (first | rfl | (first | exact congrArg Value.bool (decide_eq_false (by unfold bareM; omega)).symm | exact congrArg Value.bool (decide_eq_decide.2 (by unfold bareM; omega))))
theorem lack_ok (W : World) {v0 : List Value} {d0 : DMessage} (h0 : Rd TMessage (wm W) v0 d0) : CallR Try.prog 39 [.agg v0.toArray] W (mnil) (fun v m' => v = .bool (decide (ackM d0))) := by
  obtain ⟨p0_A4, p0_c4, p0_A7, p0_c7, rfl, p0_0, p0_1, p0_2, p0_3, p0_4, p0_5, p0_6, p0_7⟩ := open_Message (x0 := d0.1) (x1 := d0.2.1) (x2 := d0.2.2.1) (x3 := d0.2.2.2.1) (x4 := d0.2.2.2.2.1) (x5 := d0.2.2.2.2.2.1) (x6 := d0.2.2.2.2.2.2.1) (x7 := d0.2.2.2.2.2.2.2) h0
  simp only [inK] at p0_0
  simp only [inK] at p0_1
  simp only [inK] at p0_2
  simp only [inK] at p0_3
  have p0_r4 := Rd.room p0_4
  simp only [inK] at p0_5
  simp only [inK] at p0_6
  have p0_r7 := Rd.room p0_7
  refine CallR.ofA (n := 13) Try.func39 rfl rfl rfl ?_
  refine VC.rs ?_
  refine VO.box (cs := [Value.int .i64 (d0.1), Value.int .i64 (d0.2.1), Value.int .u8 (d0.2.2.1), Value.int .i64 (d0.2.2.2.1), Value.slice p0_A4 (d0.2.2.2.2.1.length) (p0_c4), Value.int .i64 (d0.2.2.2.2.2.1), Value.int .i64 (d0.2.2.2.2.2.2.1), Value.slice p0_A7 (d0.2.2.2.2.2.2.2.length) (p0_c7)]) 102 rfl rfl rfl (fun g1 => ?_)
  refine VO.as ?_
  refine VO.k3 0 1 2 ?_
  refine VC.rs ?_
  refine VO.y rfl (.fa rfl tst26 rfl) ?_
  refine VO.y rfl (.ld1 102 rfl tk3 rfl (cellsAt_one rfl rfl)) ?_
  refine VO.callN 103 rfl fnOk36 rfl (fun W hW => lwithin_ok W d0.2.2.2.1 bdk 0 bdk 1048576 bdk) (fun v3 m3 hv3 => ?_)
  subst hv3
  refine VO.as ?_
  refine VO.k4 0 1 2 3 ?_
  refine VC.rs ?_
  refine VO.y rfl (.fa rfl tst26 rfl) ?_
  refine VO.store (k := 1) (c' := [Value.int .i64 (d0.1), Value.int .i64 (d0.2.1), Value.int .u8 (d0.2.2.1), Value.int .i64 (0), Value.slice p0_A4 (d0.2.2.2.2.1.length) (p0_c4), Value.int .i64 (d0.2.2.2.2.2.1), Value.int .i64 (d0.2.2.2.2.2.2.1), Value.slice p0_A7 (d0.2.2.2.2.2.2.2.length) (p0_c7)]) 102 rfl rfl (.inr ⟨tk3, rfl⟩) rfl rfl rfl rfl rfl ?_
  refine VO.keep [102, 0] [(102, mone g1 (.cells [Value.int .i64 (d0.1), Value.int .i64 (d0.2.1), Value.int .u8 (d0.2.2.1), Value.int .i64 (0), Value.slice p0_A4 (d0.2.2.2.2.1.length) (p0_c4), Value.int .i64 (d0.2.2.2.2.2.1), Value.int .i64 (d0.2.2.2.2.2.2.1), Value.slice p0_A7 (d0.2.2.2.2.2.2.2.length) (p0_c7)].toArray 26 (0, 0))), (0, wm W)] (by kernel_rfl) ?_
  refine VO.k4 0 1 2 3 ?_
  refine VC.rs ?_
  refine VO.mv ?_
  refine VO.mv ?_
  refine VO.dec (t := 9) rfl (fun hc4 => ?_) (fun hc4 => ?_)
  · -- T
    refine VO.gy rfl ⟨_, rfl, rfl⟩ (.ldA 102 rfl tk26 rfl (cellsAt_one rfl rfl)) ?_
    refine VO.gcallN 105 rfl ⟨_, rfl, rfl⟩ fnOk70 rfl (fun W hW => bare_ok W (mk_Message (m := wm W) d0.1 d0.2.1 d0.2.2.1 0 d0.2.2.2.2.1 d0.2.2.2.2.2.1 d0.2.2.2.2.2.2.1 d0.2.2.2.2.2.2.2 bdk bdk bdk bdk (Rd.mono p0_4 (hW.at (i := 0) rfl)) bdk bdk (Rd.mono p0_7 (hW.at (i := 0) rfl)))) (fun v5 m5 hv5 => ?_)
    try dsimp only at hv5
    subst hv5
    refine VO.y rfl (.pT rfl rfl) ?_
    refine VO.as ?_
    refine VO.k4 0 1 2 3 ?_
    refine VC.ret ?_
    refine ⟨_, _, res_run (rs := [.tmp 2]) rfl (.tmp rfl .nil), fun W_ hI => out_of (l := []) hI [] rfl rfl (mle_refl _) (fun hS_ => ?_)⟩
    dsimp only [packV]
    all_goals (first | rfl | (first | exact congrArg Value.bool (decide_eq_false (by unfold ackM; omega)).symm | exact congrArg Value.bool (decide_eq_decide.2 (ack_iff (by omega)))))
  · -- F
    refine VO.gN ?_
    refine VO.gN ?_
    refine VO.y rfl (.pF rfl rfl) ?_
    refine VO.as ?_
    refine VO.k4 0 1 2 3 ?_
    refine VC.ret ?_
    refine ⟨_, _, res_run (rs := [.tmp 2]) rfl (.tmp rfl .nil), fun W_ hI => out_of (l := []) hI [] rfl rfl (mle_refl _) (fun hS_ => ?_)⟩
    dsimp only [packV]
    all_goals (first | rfl | (first | exact congrArg Value.bool (decide_eq_false (by unfold ackM; omega)).symm | exact congrArg Value.bool (decide_eq_decide.2 (ack_iff (by omega)))))
theorem fin0_lhello_ok {P : Prop} (h : P := by first | exact congrArg Value.bool (decide_eq_false (by unfold helloM; omega)).symm | exact congrArg Value.bool (decide_eq_false (hello_last ‹_› (by omega) (by omega))).symm | exact congrArg Value.bool (decide_eq_decide.2 (hello_iff ⟨by omega, by omega⟩ (by omega) (lastOk_good ‹_› (by omega) (by omega)))) | exact congrArg Value.bool (decide_eq_decide.2 (hello_iff ⟨by omega, by omega⟩ (by omega) (lastOk_nil (by omega))))) : P := h
theorem lhello_ok (W : World) {v0 : List Value} {d0 : DMessage} (h0 : Rd TMessage (wm W) v0 d0) : CallR Try.prog 37 [.agg v0.toArray] W (mnil) (fun v m' => v = .bool (decide (helloM d0))) := by
  obtain ⟨p0_A4, p0_c4, p0_A7, p0_c7, rfl, p0_0, p0_1, p0_2, p0_3, p0_4, p0_5, p0_6, p0_7⟩ := open_Message (x0 := d0.1) (x1 := d0.2.1) (x2 := d0.2.2.1) (x3 := d0.2.2.2.1) (x4 := d0.2.2.2.2.1) (x5 := d0.2.2.2.2.2.1) (x6 := d0.2.2.2.2.2.2.1) (x7 := d0.2.2.2.2.2.2.2) h0
  simp only [inK] at p0_0
  simp only [inK] at p0_1
  simp only [inK] at p0_2
  simp only [inK] at p0_3
  have p0_r4 := Rd.room p0_4
  simp only [inK] at p0_5
  simp only [inK] at p0_6
  have p0_r7 := Rd.room p0_7
  refine CallR.ofA (n := 38) Try.func37 rfl rfl rfl ?_
  refine VC.rs ?_
  refine VO.box (cs := [Value.int .i64 (d0.1), Value.int .i64 (d0.2.1), Value.int .u8 (d0.2.2.1), Value.int .i64 (d0.2.2.2.1), Value.slice p0_A4 (d0.2.2.2.2.1.length) (p0_c4), Value.int .i64 (d0.2.2.2.2.2.1), Value.int .i64 (d0.2.2.2.2.2.2.1), Value.slice p0_A7 (d0.2.2.2.2.2.2.2.length) (p0_c7)]) 102 rfl rfl rfl (fun g1 => ?_)
  refine VO.as ?_
  refine VO.k3 0 1 2 ?_
  refine VC.seq ?_
  refine VC.rs ?_
  refine VO.y rfl (.fa rfl tst26 rfl) ?_
  refine VO.y rfl (.ld1 102 rfl tk22 rfl (cellsAt_one rfl rfl)) ?_
  refine VO.callN 103 rfl fnOk68 rfl (fun W hW => lrole_ok W d0.2.2.1 bdk) (fun v3 m3 hv3 => ?_)
  subst hv3
  refine VO.y rfl (.notD rfl) ?_
  refine VO.mv ?_
  refine VO.dec (t := 8) rfl (fun hc4 => ?_) (fun hc4 => ?_)
  · -- T
    refine VO.gN ?_
    refine VO.gN ?_
    refine VO.gN ?_
    refine VO.gN ?_
    refine VO.gN ?_
    refine VO.gN ?_
    refine VO.y rfl (.pT rfl rfl) ?_
    refine VO.k4 0 1 2 15 ?_
    refine VC.condT rfl ?_
    refine VC.rs ?_
    refine VO.as ?_
    refine VO.keep [102, 0] [(102, mone g1 (.cells [Value.int .i64 (d0.1), Value.int .i64 (d0.2.1), Value.int .u8 (d0.2.2.1), Value.int .i64 (d0.2.2.2.1), Value.slice p0_A4 (d0.2.2.2.2.1.length) (p0_c4), Value.int .i64 (d0.2.2.2.2.2.1), Value.int .i64 (d0.2.2.2.2.2.2.1), Value.slice p0_A7 (d0.2.2.2.2.2.2.2.length) (p0_c7)].toArray 26 (0, 0))), (0, wm W)] (by kernel_rfl) ?_
    refine VO.k4 0 1 2 15 ?_
    refine VC.ret ?_
    refine outR ?_
    refine ⟨_, _, res_run (rs := [.tmp 2]) rfl (.tmp rfl .nil), fun W_ hI => out_of (l := []) hI [] rfl rfl (mle_refl _) (fun hS_ => ?_)⟩
    dsimp only [packV]
    all_goals (first | rfl | (exact fin0_lhello_ok))
  · -- F
    refine VO.gy rfl ⟨_, rfl, rfl⟩ (.fa rfl tst26 rfl) ?_
    refine VO.gy rfl ⟨_, rfl, rfl⟩ (.ld1 102 rfl tk23 rfl (cellsAt_one rfl rfl)) ?_
    refine VO.gy rfl ⟨_, rfl, rfl⟩ (.fa rfl tst26 rfl) ?_
    refine VO.gy rfl ⟨_, rfl, rfl⟩ (.ld1 102 rfl tk3 rfl (cellsAt_one rfl rfl)) ?_
    refine VO.gcallN 105 rfl ⟨_, rfl, rfl⟩ fnOk69 rfl (fun W hW => sCheck_ok W (Rd.mono p0_4 (hW.at (i := 0) rfl)) d0.2.2.2.1 bdk) (fun v5 m5 hv5 => ?_)
    subst hv5
    have hfa6 := sCheck_range d0.2.2.2.2.1 d0.2.2.2.1
    refine VO.gy rfl ⟨_, rfl, rfl⟩ (.neq rfl rfl) ?_
    refine VO.y rfl (.pF rfl rfl) ?_
    refine VO.k4 0 1 2 15 ?_
    refine VC.cond rfl (fun hc7 => ?_) (fun hc7 => ?_)
    · -- FT
      refine VC.rs ?_
      refine VO.as ?_
      refine VO.keep [102, 0] [(102, mone g1 (.cells [Value.int .i64 (d0.1), Value.int .i64 (d0.2.1), Value.int .u8 (d0.2.2.1), Value.int .i64 (d0.2.2.2.1), Value.slice p0_A4 (d0.2.2.2.2.1.length) (p0_c4), Value.int .i64 (d0.2.2.2.2.2.1), Value.int .i64 (d0.2.2.2.2.2.2.1), Value.slice p0_A7 (d0.2.2.2.2.2.2.2.length) (p0_c7)].toArray 26 (0, 0))), (0, wm W)] (by kernel_rfl) ?_
      refine VO.k4 0 1 2 15 ?_
      refine VC.ret ?_
      refine outR ?_
      refine ⟨_, _, res_run (rs := [.tmp 2]) rfl (.tmp rfl .nil), fun W_ hI => out_of (l := []) hI [] rfl rfl (mle_refl _) (fun hS_ => ?_)⟩
      dsimp only [packV]
      all_goals (first | rfl | (exact fin0_lhello_ok))
    · -- FF
      refine VC.skip ?_
      refine outN ?_
      refine VC.seq ?_
      refine VC.rs ?_
      refine VO.y rfl (.fa rfl tst26 rfl) ?_
      refine VO.y rfl (.ld1 102 rfl tk23 rfl (cellsAt_one rfl rfl)) ?_
      refine VO.y rfl (.lenS rfl tsl23) ?_
      refine VO.as ?_
      refine VO.keep [102, 0] [(102, mone g1 (.cells [Value.int .i64 (d0.1), Value.int .i64 (d0.2.1), Value.int .u8 (d0.2.2.1), Value.int .i64 (d0.2.2.2.1), Value.slice p0_A4 (d0.2.2.2.2.1.length) (p0_c4), Value.int .i64 (d0.2.2.2.2.2.1), Value.int .i64 (d0.2.2.2.2.2.2.1), Value.slice p0_A7 (d0.2.2.2.2.2.2.2.length) (p0_c7)].toArray 26 (0, 0))), (0, wm W)] (by kernel_rfl) ?_
      refine VO.k5 0 1 2 3 15 ?_
      refine VC.seq ?_
      refine VC.regD _ 12 [(0, true), (1, true), (2, true), (3, true), (4, true), (5, true), (6, true), (7, true), (8, true), (9, true), (10, true), (11, true)] follows (by kernel_rfl) (fun _ h => h.sub [102, 0]) ?_
      refine VD.y rfl rfl (.inl rfl) (.mv rfl) ?_
      refine VD.y rfl rfl (.inl rfl) (.gtr rfl rfl) ?_
      refine VD.y rfl rfl (.inl rfl) (.mv rfl) ?_
      refine VD.dec (s := 21) rfl (fun hc8 => ?_) (fun hc8 => ?_)
      · -- FFT
        refine VD.y rfl rfl (.inr ⟨_, _, rfl, _, rfl, rfl⟩) (.fa rfl tst26 rfl) ?_
        refine VD.y rfl rfl (.inr ⟨_, _, rfl, _, rfl, rfl⟩) (.ld1 102 rfl tk23 rfl (cellsAt_one rfl rfl)) ?_
        refine VD.y rfl rfl (.inr ⟨_, _, rfl, _, rfl, rfl⟩) (.mv rfl) ?_
        refine VD.y rfl rfl (.inr ⟨_, _, rfl, _, rfl, rfl⟩) (.sub rfl rfl rfl ⟨bd, bd⟩) ?_
        obtain ⟨x9, hx9⟩ : ∃ z_, (d0.2.2.2.2.1)[(((d0.2.2.2.2.1.length : Nat) : Int) - 1).toNat]? = some z_ := ⟨_, List.getElem?_eq_getElem bd⟩
        obtain ⟨gg9, oo9, ec9, ea9, hce9, hre9⟩ := p0_4.elem hx9
        cases ea9
        obtain ⟨rfl, q9_0, q9_1⟩ := open_Start (x0 := x9.1) (x1 := x9.2) hre9
        simp only [inK] at q9_0
        simp only [inK] at q9_1
        refine VD.y rfl rfl (.inr ⟨_, _, rfl, _, rfl, rfl⟩) (.ixI ((((d0.2.2.2.2.1.length : Nat) : Int) - 1).toNat) rfl rfl tsl23 bd bd) ?_
        refine VD.y rfl rfl (.inr ⟨_, _, rfl, _, rfl, rfl⟩) (.fa rfl tst57 rfl) ?_
        refine VD.y rfl rfl (.inr ⟨_, _, rfl, _, rfl, rfl⟩) (.ld1 0 rfl tk3 rfl (hce9.at1 (j := 0) rfl)) ?_
        refine VD.y rfl rfl (.inr ⟨_, _, rfl, _, rfl, rfl⟩) (.fa rfl tst26 rfl) ?_
        refine VD.y rfl rfl (.inr ⟨_, _, rfl, _, rfl, rfl⟩) (.ld1 102 rfl tk3 rfl (cellsAt_one rfl rfl)) ?_
        refine VD.nil rfl ?_ rfl
        refine VO.gy rfl ⟨_, rfl, rfl⟩ (.gtr rfl rfl) ?_
        refine VO.y rfl (.pT rfl rfl) ?_
        refine VO.k6 0 1 2 3 15 32 ?_
        refine outN ?_
        refine VC.cond rfl (fun hc10 => ?_) (fun hc10 => ?_)
        · -- FFTT
          refine VC.rs ?_
          refine VO.as ?_
          refine VO.k6 0 1 2 3 15 32 ?_
          refine VC.ret ?_
          refine outR ?_
          refine ⟨_, _, res_run (rs := [.tmp 2]) rfl (.tmp rfl .nil), fun W_ hI => out_of (l := []) hI [] rfl rfl (mle_refl _) (fun hS_ => ?_)⟩
          dsimp only [packV]
          all_goals (first | rfl | (exact fin0_lhello_ok))
        · -- FFTF
          refine VC.skip ?_
          refine outN ?_
          refine VC.rs ?_
          refine VO.y rfl (.fa rfl tst26 rfl) ?_
          refine VO.store (k := 1) (c' := [Value.int .i64 (d0.1), Value.int .i64 (d0.2.1), Value.int .u8 (0), Value.int .i64 (d0.2.2.2.1), Value.slice (some ⟨gg9, oo9, none⟩) (d0.2.2.2.2.1.length) (p0_c4), Value.int .i64 (d0.2.2.2.2.2.1), Value.int .i64 (d0.2.2.2.2.2.2.1), Value.slice p0_A7 (d0.2.2.2.2.2.2.2.length) (p0_c7)]) 102 rfl rfl (.inr ⟨tk22, rfl⟩) rfl rfl rfl rfl rfl ?_
          refine VO.y rfl (.fa rfl tst26 rfl) ?_
          refine VO.store (k := 1) (c' := [Value.int .i64 (d0.1), Value.int .i64 (d0.2.1), Value.int .u8 (0), Value.int .i64 (0), Value.slice (some ⟨gg9, oo9, none⟩) (d0.2.2.2.2.1.length) (p0_c4), Value.int .i64 (d0.2.2.2.2.2.1), Value.int .i64 (d0.2.2.2.2.2.2.1), Value.slice p0_A7 (d0.2.2.2.2.2.2.2.length) (p0_c7)]) 102 rfl rfl (.inr ⟨tk3, rfl⟩) rfl rfl rfl rfl rfl ?_
          refine VO.y rfl (.fa rfl tst26 rfl) ?_
          refine VO.store (k := 1) (c' := [Value.int .i64 (d0.1), Value.int .i64 (d0.2.1), Value.int .u8 (0), Value.int .i64 (0), Value.slice none (0) (0), Value.int .i64 (d0.2.2.2.2.2.1), Value.int .i64 (d0.2.2.2.2.2.2.1), Value.slice p0_A7 (d0.2.2.2.2.2.2.2.length) (p0_c7)]) 102 rfl rfl (.inr ⟨tk23, rfl⟩) rfl rfl rfl rfl rfl ?_
          refine VO.k6 0 1 2 3 15 32 ?_
          refine VC.rs ?_
          refine VO.y rfl (.ldA 102 rfl tk26 rfl (cellsAt_one rfl rfl)) ?_
          refine VO.callN 111 rfl fnOk70 rfl (fun W hW => bare_ok W (mk_Message (m := wm W) d0.1 d0.2.1 0 0 [] d0.2.2.2.2.2.1 d0.2.2.2.2.2.2.1 d0.2.2.2.2.2.2.2 bdk bdk bdk bdk (Rd.nil _ _ none 0 (Nat.zero_le _)) bdk bdk (Rd.mono p0_7 (hW.at (i := 0) rfl)))) (fun v11 m11 hv11 => ?_)
          try dsimp only at hv11
          subst hv11
          refine VO.as ?_
          refine VO.keep [102, 0] [(102, mone g1 (.cells [Value.int .i64 (d0.1), Value.int .i64 (d0.2.1), Value.int .u8 (0), Value.int .i64 (0), Value.slice none (0) (0), Value.int .i64 (d0.2.2.2.2.2.1), Value.int .i64 (d0.2.2.2.2.2.2.1), Value.slice p0_A7 (d0.2.2.2.2.2.2.2.length) (p0_c7)].toArray 26 (0, 0))), (0, wm W)] (by kernel_rfl) ?_
          refine VO.k6 0 1 2 3 15 32 ?_
          refine VC.ret ?_
          refine ⟨_, _, res_run (rs := [.tmp 2]) rfl (.tmp rfl .nil), fun W_ hI => out_of (l := []) hI [] rfl rfl (mle_refl _) (fun hS_ => ?_)⟩
          dsimp only [packV]
          all_goals (first | rfl | (exact fin0_lhello_ok))
      · -- FFF
        refine VD.gn rfl rfl (.inl ⟨_, rfl, rfl⟩) ?_
        refine VD.gn rfl rfl (.inl ⟨_, rfl, rfl⟩) ?_
        refine VD.gn rfl rfl (.inl ⟨_, rfl, rfl⟩) ?_
        refine VD.gn rfl rfl (.inl ⟨_, rfl, rfl⟩) ?_
        refine VD.gn rfl rfl (.inl ⟨_, rfl, rfl⟩) ?_
        refine VD.gn rfl rfl (.inl ⟨_, rfl, rfl⟩) ?_
        refine VD.gn rfl rfl (.inl ⟨_, rfl, rfl⟩) ?_
        refine VD.gn rfl rfl (.inl ⟨_, rfl, rfl⟩) ?_
        refine VD.gn rfl rfl (.inl ⟨_, rfl, rfl⟩) ?_
        refine VD.nil rfl ?_ rfl
        refine VO.gN ?_
        refine VO.y rfl (.pF rfl rfl) ?_
        refine VO.k6 0 1 2 3 15 32 ?_
        refine outN ?_
        refine VC.condF rfl ?_
        refine VC.skip ?_
        refine outN ?_
        refine VC.rs ?_
        refine VO.y rfl (.fa rfl tst26 rfl) ?_
        refine VO.store (k := 1) (c' := [Value.int .i64 (d0.1), Value.int .i64 (d0.2.1), Value.int .u8 (0), Value.int .i64 (d0.2.2.2.1), Value.slice p0_A4 (d0.2.2.2.2.1.length) (p0_c4), Value.int .i64 (d0.2.2.2.2.2.1), Value.int .i64 (d0.2.2.2.2.2.2.1), Value.slice p0_A7 (d0.2.2.2.2.2.2.2.length) (p0_c7)]) 102 rfl rfl (.inr ⟨tk22, rfl⟩) rfl rfl rfl rfl rfl ?_
        refine VO.y rfl (.fa rfl tst26 rfl) ?_
        refine VO.store (k := 1) (c' := [Value.int .i64 (d0.1), Value.int .i64 (d0.2.1), Value.int .u8 (0), Value.int .i64 (0), Value.slice p0_A4 (d0.2.2.2.2.1.length) (p0_c4), Value.int .i64 (d0.2.2.2.2.2.1), Value.int .i64 (d0.2.2.2.2.2.2.1), Value.slice p0_A7 (d0.2.2.2.2.2.2.2.length) (p0_c7)]) 102 rfl rfl (.inr ⟨tk3, rfl⟩) rfl rfl rfl rfl rfl ?_
        refine VO.y rfl (.fa rfl tst26 rfl) ?_
        refine VO.store (k := 1) (c' := [Value.int .i64 (d0.1), Value.int .i64 (d0.2.1), Value.int .u8 (0), Value.int .i64 (0), Value.slice none (0) (0), Value.int .i64 (d0.2.2.2.2.2.1), Value.int .i64 (d0.2.2.2.2.2.2.1), Value.slice p0_A7 (d0.2.2.2.2.2.2.2.length) (p0_c7)]) 102 rfl rfl (.inr ⟨tk23, rfl⟩) rfl rfl rfl rfl rfl ?_
        refine VO.k6 0 1 2 3 15 32 ?_
        refine VC.rs ?_
        refine VO.y rfl (.ldA 102 rfl tk26 rfl (cellsAt_one rfl rfl)) ?_
        refine VO.callN 112 rfl fnOk70 rfl (fun W hW => bare_ok W (mk_Message (m := wm W) d0.1 d0.2.1 0 0 [] d0.2.2.2.2.2.1 d0.2.2.2.2.2.2.1 d0.2.2.2.2.2.2.2 bdk bdk bdk bdk (Rd.nil _ _ none 0 (Nat.zero_le _)) bdk bdk (Rd.mono p0_7 (hW.at (i := 0) rfl)))) (fun v12 m12 hv12 => ?_)
        try dsimp only at hv12
        subst hv12
        refine VO.as ?_
        refine VO.keep [102, 0] [(102, mone g1 (.cells [Value.int .i64 (d0.1), Value.int .i64 (d0.2.1), Value.int .u8 (0), Value.int .i64 (0), Value.slice none (0) (0), Value.int .i64 (d0.2.2.2.2.2.1), Value.int .i64 (d0.2.2.2.2.2.2.1), Value.slice p0_A7 (d0.2.2.2.2.2.2.2.length) (p0_c7)].toArray 26 (0, 0))), (0, wm W)] (by kernel_rfl) ?_
        refine VO.k6 0 1 2 3 15 32 ?_
        refine VC.ret ?_
        refine ⟨_, _, res_run (rs := [.tmp 2]) rfl (.tmp rfl .nil), fun W_ hI => out_of (l := []) hI [] rfl rfl (mle_refl _) (fun hS_ => ?_)⟩
        dsimp only [packV]
        all_goals (first | rfl | (exact fin0_lhello_ok))
theorem fin0_lship_ok {P : Prop} (h : P := by first | exact congrArg Value.bool (decide_eq_false (by unfold shipM; omega)).symm | exact congrArg Value.bool (decide_eq_false (ship_len ‹_›)).symm | exact congrArg Value.bool (decide_eq_false (fun e => by have := e.2.2.2.2.2.1 _ (List.mem_of_getElem? ‹_[k]? = some _›); omega)).symm | exact congrArg Value.bool (decide_eq_decide.2 (by have ha2 := ha; rw [List.take_of_length_le (by omega)] at ha2; exact ship_iff (by omega) (by omega) ‹¬ ¬ decide _ = decide _› (by omega) (by omega) ha2))) : P := h
theorem lship_ok (W : World) {v0 : List Value} {d0 : DMessage} (h0 : Rd TMessage (wm W) v0 d0) : CallR Try.prog 38 [.agg v0.toArray] W (mnil) (fun v m' => v = .bool (decide (shipM d0))) := by
  obtain ⟨p0_A4, p0_c4, p0_A7, p0_c7, rfl, p0_0, p0_1, p0_2, p0_3, p0_4, p0_5, p0_6, p0_7⟩ := open_Message (x0 := d0.1) (x1 := d0.2.1) (x2 := d0.2.2.1) (x3 := d0.2.2.2.1) (x4 := d0.2.2.2.2.1) (x5 := d0.2.2.2.2.2.1) (x6 := d0.2.2.2.2.2.2.1) (x7 := d0.2.2.2.2.2.2.2) h0
  simp only [inK] at p0_0
  simp only [inK] at p0_1
  simp only [inK] at p0_2
  simp only [inK] at p0_3
  have p0_r4 := Rd.room p0_4
  simp only [inK] at p0_5
  simp only [inK] at p0_6
  have p0_r7 := Rd.room p0_7
  refine CallR.ofA (n := 60) Try.func38 rfl rfl rfl ?_
  refine VC.rs ?_
  refine VO.box (cs := [Value.int .i64 (d0.1), Value.int .i64 (d0.2.1), Value.int .u8 (d0.2.2.1), Value.int .i64 (d0.2.2.2.1), Value.slice p0_A4 (d0.2.2.2.2.1.length) (p0_c4), Value.int .i64 (d0.2.2.2.2.2.1), Value.int .i64 (d0.2.2.2.2.2.2.1), Value.slice p0_A7 (d0.2.2.2.2.2.2.2.length) (p0_c7)]) 102 rfl rfl rfl (fun g1 => ?_)
  refine VO.as ?_
  refine VO.k3 0 1 2 ?_
  refine VC.seq ?_
  refine VC.rs ?_
  refine VO.y rfl (.fa rfl tst26 rfl) ?_
  refine VO.y rfl (.ld1 102 rfl tk3 rfl (cellsAt_one rfl rfl)) ?_
  refine VO.callN 103 rfl fnOk36 rfl (fun W hW => lwithin_ok W d0.2.2.2.2.2.1 bdk 1 bdk 1048576 bdk) (fun v3 m3 hv3 => ?_)
  subst hv3
  refine VO.y rfl (.notD rfl) ?_
  refine VO.mv ?_
  refine VO.dec (t := 9) rfl (fun hc4 => ?_) (fun hc4 => ?_)
  · -- T
    refine VO.gN ?_
    refine VO.gN ?_
    refine VO.gN ?_
    refine VO.gN ?_
    refine VO.gN ?_
    refine VO.gN ?_
    refine VO.y rfl (.pT rfl rfl) ?_
    refine VO.mv ?_
    refine VO.gN ?_
    refine VO.gN ?_
    refine VO.gN ?_
    refine VO.gN ?_
    refine VO.gN ?_
    refine VO.gN ?_
    refine VO.gN ?_
    refine VO.y rfl (.pT rfl rfl) ?_
    refine VO.mv ?_
    refine VO.gN ?_
    refine VO.gN ?_
    refine VO.gN ?_
    refine VO.gN ?_
    refine VO.y rfl (.pT rfl rfl) ?_
    refine VO.k4 0 1 2 31 ?_
    refine VC.condT rfl ?_
    refine VC.rs ?_
    refine VO.as ?_
    refine VO.keep [102, 0] [(102, mone g1 (.cells [Value.int .i64 (d0.1), Value.int .i64 (d0.2.1), Value.int .u8 (d0.2.2.1), Value.int .i64 (d0.2.2.2.1), Value.slice p0_A4 (d0.2.2.2.2.1.length) (p0_c4), Value.int .i64 (d0.2.2.2.2.2.1), Value.int .i64 (d0.2.2.2.2.2.2.1), Value.slice p0_A7 (d0.2.2.2.2.2.2.2.length) (p0_c7)].toArray 26 (0, 0))), (0, wm W)] (by kernel_rfl) ?_
    refine VO.k4 0 1 2 31 ?_
    refine VC.ret ?_
    refine outR ?_
    refine ⟨_, _, res_run (rs := [.tmp 2]) rfl (.tmp rfl .nil), fun W_ hI => out_of (l := []) hI [] rfl rfl (mle_refl _) (fun hS_ => ?_)⟩
    dsimp only [packV]
    all_goals (first | rfl | (exact fin0_lship_ok))
  · -- F
    refine VO.gy rfl ⟨_, rfl, rfl⟩ (.fa rfl tst26 rfl) ?_
    refine VO.gy rfl ⟨_, rfl, rfl⟩ (.ld1 102 rfl tk3 rfl (cellsAt_one rfl rfl)) ?_
    refine VO.gy rfl ⟨_, rfl, rfl⟩ (.fa rfl tst26 rfl) ?_
    refine VO.gy rfl ⟨_, rfl, rfl⟩ (.ld1 102 rfl tk3 rfl (cellsAt_one rfl rfl)) ?_
    refine VO.gcallN 105 rfl ⟨_, rfl, rfl⟩ fnOk36 rfl (fun W hW => lwithin_ok W d0.2.2.2.2.2.2.1 bdk 0 bdk d0.2.1 bdk) (fun v5 m5 hv5 => ?_)
    subst hv5
    refine VO.gy rfl ⟨_, rfl, rfl⟩ (.notD rfl) ?_
    refine VO.y rfl (.pF rfl rfl) ?_
    refine VO.mv ?_
    refine VO.dec (t := 17) rfl (fun hc6 => ?_) (fun hc6 => ?_)
    · -- FT
      refine VO.gN ?_
      refine VO.gN ?_
      refine VO.gN ?_
      refine VO.gN ?_
      refine VO.gN ?_
      refine VO.gN ?_
      refine VO.gN ?_
      refine VO.y rfl (.pT rfl rfl) ?_
      refine VO.mv ?_
      refine VO.gN ?_
      refine VO.gN ?_
      refine VO.gN ?_
      refine VO.gN ?_
      refine VO.y rfl (.pT rfl rfl) ?_
      refine VO.k4 0 1 2 31 ?_
      refine VC.condT rfl ?_
      refine VC.rs ?_
      refine VO.as ?_
      refine VO.keep [102, 0] [(102, mone g1 (.cells [Value.int .i64 (d0.1), Value.int .i64 (d0.2.1), Value.int .u8 (d0.2.2.1), Value.int .i64 (d0.2.2.2.1), Value.slice p0_A4 (d0.2.2.2.2.1.length) (p0_c4), Value.int .i64 (d0.2.2.2.2.2.1), Value.int .i64 (d0.2.2.2.2.2.2.1), Value.slice p0_A7 (d0.2.2.2.2.2.2.2.length) (p0_c7)].toArray 26 (0, 0))), (0, wm W)] (by kernel_rfl) ?_
      refine VO.k4 0 1 2 31 ?_
      refine VC.ret ?_
      refine outR ?_
      refine ⟨_, _, res_run (rs := [.tmp 2]) rfl (.tmp rfl .nil), fun W_ hI => out_of (l := []) hI [] rfl rfl (mle_refl _) (fun hS_ => ?_)⟩
      dsimp only [packV]
      all_goals (first | rfl | (exact fin0_lship_ok))
    · -- FF
      refine VO.gy rfl ⟨_, rfl, rfl⟩ (.fa rfl tst26 rfl) ?_
      refine VO.gy rfl ⟨_, rfl, rfl⟩ (.ld1 102 rfl tk3 rfl (cellsAt_one rfl rfl)) ?_
      refine VO.gy rfl ⟨_, rfl, rfl⟩ (.eql rfl rfl) ?_
      refine VO.gy rfl ⟨_, rfl, rfl⟩ (.fa rfl tst26 rfl) ?_
      refine VO.gy rfl ⟨_, rfl, rfl⟩ (.ld1 102 rfl tk3 rfl (cellsAt_one rfl rfl)) ?_
      refine VO.gy rfl ⟨_, rfl, rfl⟩ (.eql rfl rfl) ?_
      refine VO.gy rfl ⟨_, rfl, rfl⟩ (.bneq rfl rfl Try.underlying4) ?_
      refine VO.y rfl (.pF rfl rfl) ?_
      refine VO.mv ?_
      refine VO.dec (t := 26) rfl (fun hc7 => ?_) (fun hc7 => ?_)
      · -- FFT
        refine VO.gN ?_
        refine VO.gN ?_
        refine VO.gN ?_
        refine VO.gN ?_
        refine VO.y rfl (.pT rfl rfl) ?_
        refine VO.k4 0 1 2 31 ?_
        refine VC.condT rfl ?_
        refine VC.rs ?_
        refine VO.as ?_
        refine VO.keep [102, 0] [(102, mone g1 (.cells [Value.int .i64 (d0.1), Value.int .i64 (d0.2.1), Value.int .u8 (d0.2.2.1), Value.int .i64 (d0.2.2.2.1), Value.slice p0_A4 (d0.2.2.2.2.1.length) (p0_c4), Value.int .i64 (d0.2.2.2.2.2.1), Value.int .i64 (d0.2.2.2.2.2.2.1), Value.slice p0_A7 (d0.2.2.2.2.2.2.2.length) (p0_c7)].toArray 26 (0, 0))), (0, wm W)] (by kernel_rfl) ?_
        refine VO.k4 0 1 2 31 ?_
        refine VC.ret ?_
        refine outR ?_
        refine ⟨_, _, res_run (rs := [.tmp 2]) rfl (.tmp rfl .nil), fun W_ hI => out_of (l := []) hI [] rfl rfl (mle_refl _) (fun hS_ => ?_)⟩
        dsimp only [packV]
        all_goals (first | rfl | (exact fin0_lship_ok))
      · -- FFF
        refine VO.gy rfl ⟨_, rfl, rfl⟩ (.fa rfl tst26 rfl) ?_
        refine VO.gy rfl ⟨_, rfl, rfl⟩ (.ld1 102 rfl tk24 rfl (cellsAt_one rfl rfl)) ?_
        refine VO.gy rfl ⟨_, rfl, rfl⟩ (.lenS rfl tsl24) ?_
        refine VO.gy rfl ⟨_, rfl, rfl⟩ (.gtr rfl rfl) ?_
        refine VO.y rfl (.pF rfl rfl) ?_
        refine VO.k4 0 1 2 31 ?_
        refine VC.cond rfl (fun hc8 => ?_) (fun hc8 => ?_)
        · -- FFFT
          refine VC.rs ?_
          refine VO.as ?_
          refine VO.keep [102, 0] [(102, mone g1 (.cells [Value.int .i64 (d0.1), Value.int .i64 (d0.2.1), Value.int .u8 (d0.2.2.1), Value.int .i64 (d0.2.2.2.1), Value.slice p0_A4 (d0.2.2.2.2.1.length) (p0_c4), Value.int .i64 (d0.2.2.2.2.2.1), Value.int .i64 (d0.2.2.2.2.2.2.1), Value.slice p0_A7 (d0.2.2.2.2.2.2.2.length) (p0_c7)].toArray 26 (0, 0))), (0, wm W)] (by kernel_rfl) ?_
          refine VO.k4 0 1 2 31 ?_
          refine VC.ret ?_
          refine outR ?_
          refine ⟨_, _, res_run (rs := [.tmp 2]) rfl (.tmp rfl .nil), fun W_ hI => out_of (l := []) hI [] rfl rfl (mle_refl _) (fun hS_ => ?_)⟩
          dsimp only [packV]
          all_goals (first | rfl | (exact fin0_lship_ok))
        · -- FFFF
          refine VC.skip ?_
          refine outN ?_
          refine VC.seq ?_
          refine VC.rs ?_
          refine VO.y rfl (.fa rfl tst26 rfl) ?_
          refine VO.y rfl (.ld1 102 rfl tk3 rfl (cellsAt_one rfl rfl)) ?_
          refine VO.y rfl (.fa rfl tst26 rfl) ?_
          refine VO.y rfl (.ld1 102 rfl tk3 rfl (cellsAt_one rfl rfl)) ?_
          refine VO.y rfl (.sub rfl rfl rfl ⟨bd, bd⟩) ?_
          refine VO.y rfl (.fa rfl tst26 rfl) ?_
          refine VO.y rfl (.ld1 102 rfl tk24 rfl (cellsAt_one rfl rfl)) ?_
          refine VO.callN 109 rfl fnOk71 rfl (fun W hW => follows_ok W d0.2.2.2.2.2.2.1 bdk (d0.2.2.2.2.2.1 - 1) bdk (Rd.mono p0_7 (hW.at (i := 0) rfl))) (fun v9 m9 hv9 => ?_)
          obtain ⟨s9_0, rfl, f9_0⟩ := hv9
          obtain ⟨rfl, q9_0_0, q9_0_1⟩ := open_Fault (x0 := (cFollows d0.2.2.2.2.2.2.1 (d0.2.2.2.2.2.1 - 1) d0.2.2.2.2.2.2.2).1) (x1 := (cFollows d0.2.2.2.2.2.2.1 (d0.2.2.2.2.2.1 - 1) d0.2.2.2.2.2.2.2).2) (f9_0.rd (mle_refl _))
          simp only [inK] at q9_0_0
          simp only [inK] at q9_0_1
          refine VO.y rfl (.fld1 rfl tst92 rfl tfk92_0 rfl) ?_
          refine VO.y rfl (.neq rfl rfl) ?_
          refine VO.keep [102, 0] [(102, mone g1 (.cells [Value.int .i64 (d0.1), Value.int .i64 (d0.2.1), Value.int .u8 (d0.2.2.1), Value.int .i64 (d0.2.2.2.1), Value.slice p0_A4 (d0.2.2.2.2.1.length) (p0_c4), Value.int .i64 (d0.2.2.2.2.2.1), Value.int .i64 (d0.2.2.2.2.2.2.1), Value.slice p0_A7 (d0.2.2.2.2.2.2.2.length) (p0_c7)].toArray 26 (0, 0))), (0, wm W)] (by kernel_rfl) ?_
          refine VO.k5 0 1 2 31 41 ?_
          refine VC.cond rfl (fun hc10 => ?_) (fun hc10 => ?_)
          · -- FFFFT
            refine VC.rs ?_
            refine VO.as ?_
            refine VO.k5 0 1 2 31 41 ?_
            refine VC.ret ?_
            refine outR ?_
            refine ⟨_, _, res_run (rs := [.tmp 2]) rfl (.tmp rfl .nil), fun W_ hI => out_of (l := []) hI [] rfl rfl (mle_refl _) (fun hS_ => ?_)⟩
            dsimp only [packV]
            all_goals (first | rfl | (exact fin0_lship_ok))
          · -- FFFFF
            refine VC.skip ?_
            refine outN ?_
            refine VC.seq ?_
            refine VC.rs ?_
            refine VO.y rfl (.fa rfl tst26 rfl) ?_
            refine VO.y rfl (.ld1 102 rfl tk24 rfl (cellsAt_one rfl rfl)) ?_
            refine VO.y rfl (.lenS rfl tsl24) ?_
            refine VO.mv ?_
            refine VO.k8 0 1 2 31 41 43 44 45 ?_
            refine VC.block ?_
            refine VC.loop (G := Nat) (fun k => [(45, Value.int .i64 (((k : Nat) : Int))), (0, Value.agg [Value.int .i64 (d0.1), Value.int .i64 (d0.2.1), Value.int .u8 (d0.2.2.1), Value.int .i64 (d0.2.2.2.1), Value.slice p0_A4 (d0.2.2.2.2.1.length) (p0_c4), Value.int .i64 (d0.2.2.2.2.2.1), Value.int .i64 (d0.2.2.2.2.2.2.1), Value.slice p0_A7 (d0.2.2.2.2.2.2.2.length) (p0_c7)].toArray), (1, Value.pointer (some ⟨g1, 0, none⟩)), (31, Value.bool (decide (4 < ((d0.2.2.2.2.2.2.2.length : Nat) : Int)))), (41, Value.bool (decide (¬ ((cFollows d0.2.2.2.2.2.2.1 (d0.2.2.2.2.2.1 - 1) d0.2.2.2.2.2.2.2).1) = 0))), (43, Value.slice p0_A7 (d0.2.2.2.2.2.2.2.length) (p0_c7)), (44, Value.int .i64 (((d0.2.2.2.2.2.2.2.length : Nat) : Int)))]) (fun k => [(102, mone g1 (.cells [Value.int .i64 (d0.1), Value.int .i64 (d0.2.1), Value.int .u8 (d0.2.2.1), Value.int .i64 (d0.2.2.2.1), Value.slice p0_A4 (d0.2.2.2.2.1.length) (p0_c4), Value.int .i64 (d0.2.2.2.2.2.1), Value.int .i64 (d0.2.2.2.2.2.2.1), Value.slice p0_A7 (d0.2.2.2.2.2.2.2.length) (p0_c7)].toArray 26 (0, 0))), (0, wm W)]) (fun k => (k ≤ d0.2.2.2.2.2.2.2.length) ∧ (∀ c ∈ d0.2.2.2.2.2.2.2.take k, c.1 ≤ d0.2.1)) (fun k => d0.2.2.2.2.2.2.2.length - k) 0 (⟨by omega, by simp⟩) ⟨⟨rfl, rfl, rfl, rfl, rfl, rfl, rfl, trivial⟩, fun _ h => h.sub [102, 0]⟩ ?_
            rintro k ⟨hk, ha⟩
            refine VC.rs ?_
            refine VO.y rfl (.lss rfl rfl) ?_
            refine VO.k8 0 1 31 41 43 44 45 46 ?_
            refine VC.seq ?_
            refine VC.cond rfl (fun hc11 => ?_) (fun hc11 => ?_)
            · -- FFFFFT
              refine VC.skip ?_
              refine outN ?_
              refine VC.seq ?_
              refine VC.block ?_
              refine VC.rs ?_
              obtain ⟨x12, hx12⟩ : ∃ z_, (d0.2.2.2.2.2.2.2)[k]? = some z_ := ⟨_, List.getElem?_eq_getElem bd⟩
              obtain ⟨gg12, oo12, ec12, ea12, hce12, hre12⟩ := p0_7.elem hx12
              cases ea12
              obtain ⟨q12_A2, q12_c2, rfl, q12_0, q12_1, q12_2⟩ := open_Commit (x0 := x12.1) (x1 := x12.2.1) (x2 := x12.2.2) hre12
              simp only [inK] at q12_0
              simp only [inK] at q12_1
              have q12_r2 := Rd.room q12_2
              refine VO.y rfl (.ixI k rfl rfl tsl24 rfl bd) ?_
              refine VO.y rfl (.ldA 0 rfl tk43 rfl hce12) ?_
              refine VO.alloc 114 rfl tz43 (fun g13 => ?_)
              refine VO.store (k := 3) (c' := [Value.int .i64 (x12.1), Value.int .i64 (x12.2.1), Value.slice q12_A2 (x12.2.2.length) (q12_c2)]) 114 rfl rfl (.inl tk43) rfl rfl rfl rfl rfl ?_
              refine VO.keep [114, 102, 0] [(114, mone g13 (.cells [Value.int .i64 (x12.1), Value.int .i64 (x12.2.1), Value.slice q12_A2 (x12.2.2.length) (q12_c2)].toArray 43 (0, 0))), (102, mone g1 (.cells [Value.int .i64 (d0.1), Value.int .i64 (d0.2.1), Value.int .u8 (d0.2.2.1), Value.int .i64 (d0.2.2.2.1), Value.slice p0_A4 (d0.2.2.2.2.1.length) (p0_c4), Value.int .i64 (d0.2.2.2.2.2.1), Value.int .i64 (d0.2.2.2.2.2.2.1), Value.slice (some ⟨gg12, oo12, none⟩) (d0.2.2.2.2.2.2.2.length) (p0_c7)].toArray 26 (0, 0))), (0, wm W)] (by kernel_rfl) ?_
              refine VO.k9 0 1 4 31 41 43 44 45 46 ?_
              refine VC.rs ?_
              refine VO.y rfl (.fa rfl tst43 rfl) ?_
              refine VO.y rfl (.ld1 114 rfl tk3 rfl (cellsAt_one rfl rfl)) ?_
              refine VO.y rfl (.fa rfl tst26 rfl) ?_
              refine VO.y rfl (.ld1 102 rfl tk3 rfl (cellsAt_one rfl rfl)) ?_
              refine VO.y rfl (.gtr rfl rfl) ?_
              refine VO.k10 0 1 4 31 41 43 44 45 46 53 ?_
              refine VC.cond rfl (fun hc15 => ?_) (fun hc15 => ?_)
              · -- FFFFFTT
                refine VC.rs ?_
                refine VO.as ?_
                refine VO.k11 0 1 2 4 31 41 43 44 45 46 53 ?_
                refine VC.ret ?_
                refine outBR ?_
                refine outR ?_
                refine outR ?_
                refine outBR ?_
                refine outR ?_
                refine ⟨_, _, res_run (rs := [.tmp 2]) rfl (.tmp rfl .nil), fun W_ hI => out_of (l := []) hI [] rfl rfl (mle_refl _) (fun hS_ => ?_)⟩
                dsimp only [packV]
                all_goals (first | rfl | (exact fin0_lship_ok))
              · -- FFFFFTF
                refine VC.skip ?_
                refine outBN ?_
                refine outN ?_
                refine VC.reg ?_
                refine VO.y rfl (.add (c := ((k + 1 : Nat) : Int)) rfl rfl (by omega) ⟨bd, bd⟩) ?_
                refine VO.mv ?_
                refine VO.k10 0 1 4 31 41 43 44 45 46 53 ?_
                exact outN ⟨k + 1, ⟨by omega, by exact all_next ha ‹_› (by omega)⟩, bd, ⟨⟨rfl, rfl, rfl, rfl, rfl, rfl, rfl, trivial⟩, fun _ h => Inv.sub h [102, 0]⟩⟩
            · -- FFFFFF
              refine VC.exit ?_
              refine outE ?_
              refine outE ?_
              refine outBB ?_
              refine outN ?_
              refine VC.rs ?_
              refine VO.y rfl (.fa rfl tst26 rfl) ?_
              refine VO.store (k := 1) (c' := [Value.int .i64 (d0.1), Value.int .i64 (d0.2.1), Value.int .u8 (d0.2.2.1), Value.int .i64 (d0.2.2.2.1), Value.slice p0_A4 (d0.2.2.2.2.1.length) (p0_c4), Value.int .i64 (0), Value.int .i64 (d0.2.2.2.2.2.2.1), Value.slice p0_A7 (d0.2.2.2.2.2.2.2.length) (p0_c7)]) 102 rfl rfl (.inr ⟨tk3, rfl⟩) rfl rfl rfl rfl rfl ?_
              refine VO.y rfl (.fa rfl tst26 rfl) ?_
              refine VO.store (k := 1) (c' := [Value.int .i64 (d0.1), Value.int .i64 (d0.2.1), Value.int .u8 (d0.2.2.1), Value.int .i64 (d0.2.2.2.1), Value.slice p0_A4 (d0.2.2.2.2.1.length) (p0_c4), Value.int .i64 (0), Value.int .i64 (0), Value.slice p0_A7 (d0.2.2.2.2.2.2.2.length) (p0_c7)]) 102 rfl rfl (.inr ⟨tk3, rfl⟩) rfl rfl rfl rfl rfl ?_
              refine VO.y rfl (.fa rfl tst26 rfl) ?_
              refine VO.store (k := 1) (c' := [Value.int .i64 (d0.1), Value.int .i64 (d0.2.1), Value.int .u8 (d0.2.2.1), Value.int .i64 (d0.2.2.2.1), Value.slice p0_A4 (d0.2.2.2.2.1.length) (p0_c4), Value.int .i64 (0), Value.int .i64 (0), Value.slice none (0) (0)]) 102 rfl rfl (.inr ⟨tk24, rfl⟩) rfl rfl rfl rfl rfl ?_
              refine VO.keep [102, 0] [(102, mone g1 (.cells [Value.int .i64 (d0.1), Value.int .i64 (d0.2.1), Value.int .u8 (d0.2.2.1), Value.int .i64 (d0.2.2.2.1), Value.slice p0_A4 (d0.2.2.2.2.1.length) (p0_c4), Value.int .i64 (0), Value.int .i64 (0), Value.slice none (0) (0)].toArray 26 (0, 0))), (0, wm W)] (by kernel_rfl) ?_
              refine VO.k8 0 1 31 41 43 44 45 46 ?_
              refine VC.rs ?_
              refine VO.y rfl (.ldA 102 rfl tk26 rfl (cellsAt_one rfl rfl)) ?_
              refine VO.callN 116 rfl fnOk70 rfl (fun W hW => bare_ok W (mk_Message (m := wm W) d0.1 d0.2.1 d0.2.2.1 d0.2.2.2.1 d0.2.2.2.2.1 0 0 [] bdk bdk bdk bdk (Rd.mono p0_4 (hW.at (i := 0) rfl)) bdk bdk (Rd.nil _ _ none 0 (Nat.zero_le _)))) (fun v16 m16 hv16 => ?_)
              try dsimp only at hv16
              subst hv16
              refine VO.as ?_
              refine VO.k9 0 1 2 31 41 43 44 45 46 ?_
              refine VC.ret ?_
              refine ⟨_, _, res_run (rs := [.tmp 2]) rfl (.tmp rfl .nil), fun W_ hI => out_of (l := []) hI [] rfl rfl (mle_refl _) (fun hS_ => ?_)⟩
              dsimp only [packV]
              all_goals (first | rfl | (exact fin0_lship_ok))
theorem fin0_lCheck_ok {P : Prop} (h : P := by congr 1; first | exact (lCheck_good ⟨by omega, .inl ⟨by omega, Decidable.not_not.1 ‹¬ ¬ helloM d0›⟩⟩).symm | exact (lCheck_good ⟨by omega, .inr (.inl ⟨by omega, Decidable.not_not.1 ‹¬ ¬ shipM d0›⟩)⟩).symm | exact (lCheck_good ⟨by omega, .inr (.inr ⟨by omega, Decidable.not_not.1 ‹¬ ¬ ackM d0›⟩)⟩).symm | exact (lCheck_bad (by rintro ⟨e0, e | e | e⟩ <;> first | omega | exact absurd e.2 ‹_›)).symm) : P := h
theorem lCheck_ok (W : World) {v0 : List Value} {d0 : DMessage} (h0 : Rd TMessage (wm W) v0 d0) : CallR Try.prog 13 [.agg v0.toArray] W (mnil) (fun v m' => v = .int .i64 (lCheck d0)) := by
  obtain ⟨p0_A4, p0_c4, p0_A7, p0_c7, rfl, p0_0, p0_1, p0_2, p0_3, p0_4, p0_5, p0_6, p0_7⟩ := open_Message (x0 := d0.1) (x1 := d0.2.1) (x2 := d0.2.2.1) (x3 := d0.2.2.2.1) (x4 := d0.2.2.2.2.1) (x5 := d0.2.2.2.2.2.1) (x6 := d0.2.2.2.2.2.2.1) (x7 := d0.2.2.2.2.2.2.2) h0
  simp only [inK] at p0_0
  simp only [inK] at p0_1
  simp only [inK] at p0_2
  simp only [inK] at p0_3
  have p0_r4 := Rd.room p0_4
  simp only [inK] at p0_5
  simp only [inK] at p0_6
  have p0_r7 := Rd.room p0_7
  refine CallR.ofA (n := 32) Try.func13 rfl rfl rfl ?_
  refine VC.rs ?_
  refine VO.box (cs := [Value.int .i64 (d0.1), Value.int .i64 (d0.2.1), Value.int .u8 (d0.2.2.1), Value.int .i64 (d0.2.2.2.1), Value.slice p0_A4 (d0.2.2.2.2.1.length) (p0_c4), Value.int .i64 (d0.2.2.2.2.2.1), Value.int .i64 (d0.2.2.2.2.2.2.1), Value.slice p0_A7 (d0.2.2.2.2.2.2.2.length) (p0_c7)]) 102 rfl rfl rfl (fun g1 => ?_)
  refine VO.as ?_
  refine VO.k3 0 1 2 ?_
  refine VC.rs ?_
  refine VO.y rfl (.fa rfl tst26 rfl) ?_
  refine VO.y rfl (.ld1 102 rfl tk3 rfl (cellsAt_one rfl rfl)) ?_
  refine VO.callN 103 rfl fnOk36 rfl (fun W hW => lwithin_ok W d0.2.1 bdk 1 bdk 1048576 bdk) (fun v3 m3 hv3 => ?_)
  subst hv3
  refine VO.as ?_
  refine VO.k4 0 1 2 3 ?_
  refine VC.seq ?_
  refine VC.rs ?_
  refine VO.y rfl (.fa rfl tst26 rfl) ?_
  refine VO.y rfl (.ld1 102 rfl tk3 rfl (cellsAt_one rfl rfl)) ?_
  refine VO.keep [102, 0] [(102, mone g1 (.cells [Value.int .i64 (d0.1), Value.int .i64 (d0.2.1), Value.int .u8 (d0.2.2.1), Value.int .i64 (d0.2.2.2.1), Value.slice p0_A4 (d0.2.2.2.2.1.length) (p0_c4), Value.int .i64 (d0.2.2.2.2.2.1), Value.int .i64 (d0.2.2.2.2.2.2.1), Value.slice p0_A7 (d0.2.2.2.2.2.2.2.length) (p0_c7)].toArray 26 (0, 0))), (0, wm W)] (by kernel_rfl) ?_
  refine VO.k5 0 1 2 3 8 ?_
  refine VC.block ?_
  refine VC.rs ?_
  refine VO.y rfl (.eql rfl rfl) ?_
  refine VO.as ?_
  refine VO.k6 0 1 2 3 8 9 ?_
  refine VC.cond rfl (fun hc4 => ?_) (fun hc4 => ?_)
  · -- T
    refine VC.reg ?_
    refine VO.mv ?_
    refine VO.mv ?_
    refine VO.dec (t := 12) rfl (fun hc5 => ?_) (fun hc5 => ?_)
    · -- TT
      refine VO.gy rfl ⟨_, rfl, rfl⟩ (.ldA 102 rfl tk26 rfl (cellsAt_one rfl rfl)) ?_
      refine VO.gcallN 106 rfl ⟨_, rfl, rfl⟩ fnOk37 rfl (fun W hW => lhello_ok W (Rd.mono h0 (hW.at (i := 0) rfl))) (fun v6 m6 hv6 => ?_)
      subst hv6
      refine VO.y rfl (.pT rfl rfl) ?_
      refine VO.as ?_
      refine VO.k6 0 1 2 3 8 9 ?_
      refine outBN ?_
      refine outN ?_
      refine VC.seq ?_
      refine VC.rs ?_
      refine VO.mv ?_
      refine VO.y rfl (.notD rfl) ?_
      refine VO.keep [102, 0] [(102, mone g1 (.cells [Value.int .i64 (d0.1), Value.int .i64 (d0.2.1), Value.int .u8 (d0.2.2.1), Value.int .i64 (d0.2.2.2.1), Value.slice p0_A4 (d0.2.2.2.2.1.length) (p0_c4), Value.int .i64 (d0.2.2.2.2.2.1), Value.int .i64 (d0.2.2.2.2.2.2.1), Value.slice p0_A7 (d0.2.2.2.2.2.2.2.length) (p0_c7)].toArray 26 (0, 0))), (0, wm W)] (by kernel_rfl) ?_
      refine VO.k7 0 1 2 3 8 9 31 ?_
      refine VC.cond rfl (fun hc7 => ?_) (fun hc7 => ?_)
      · -- TTT
        refine VC.rs ?_
        refine VO.as ?_
        refine VO.k7 0 1 2 3 8 9 31 ?_
        refine VC.ret ?_
        refine outR ?_
        refine ⟨_, _, res_run (rs := [.tmp 2]) rfl (.tmp rfl .nil), fun W_ hI => out_of (l := []) hI [] rfl rfl (mle_refl _) (fun hS_ => ?_)⟩
        dsimp only [packV]
        all_goals (first | rfl | (exact fin0_lCheck_ok))
      · -- TTF
        refine VC.skip ?_
        refine outN ?_
        refine VC.rs ?_
        refine VO.as ?_
        refine VO.k7 0 1 2 3 8 9 31 ?_
        refine VC.ret ?_
        refine ⟨_, _, res_run (rs := [.tmp 2]) rfl (.tmp rfl .nil), fun W_ hI => out_of (l := []) hI [] rfl rfl (mle_refl _) (fun hS_ => ?_)⟩
        dsimp only [packV]
        all_goals (first | rfl | (exact fin0_lCheck_ok))
    · -- TF
      refine VO.gN ?_
      refine VO.gN ?_
      refine VO.y rfl (.pF rfl rfl) ?_
      refine VO.as ?_
      refine VO.k6 0 1 2 3 8 9 ?_
      refine outBN ?_
      refine outN ?_
      refine VC.seq ?_
      refine VC.rs ?_
      refine VO.mv ?_
      refine VO.y rfl (.not rfl) ?_
      refine VO.keep [102, 0] [(102, mone g1 (.cells [Value.int .i64 (d0.1), Value.int .i64 (d0.2.1), Value.int .u8 (d0.2.2.1), Value.int .i64 (d0.2.2.2.1), Value.slice p0_A4 (d0.2.2.2.2.1.length) (p0_c4), Value.int .i64 (d0.2.2.2.2.2.1), Value.int .i64 (d0.2.2.2.2.2.2.1), Value.slice p0_A7 (d0.2.2.2.2.2.2.2.length) (p0_c7)].toArray 26 (0, 0))), (0, wm W)] (by kernel_rfl) ?_
      refine VO.k7 0 1 2 3 8 9 31 ?_
      refine VC.condT rfl ?_
      refine VC.rs ?_
      refine VO.as ?_
      refine VO.k7 0 1 2 3 8 9 31 ?_
      refine VC.ret ?_
      refine outR ?_
      refine ⟨_, _, res_run (rs := [.tmp 2]) rfl (.tmp rfl .nil), fun W_ hI => out_of (l := []) hI [] rfl rfl (mle_refl _) (fun hS_ => ?_)⟩
      dsimp only [packV]
      all_goals (first | rfl | (exact fin0_lCheck_ok))
  · -- F
    refine VC.rs ?_
    refine VO.y rfl (.eql rfl rfl) ?_
    refine VO.as ?_
    refine VO.k7 0 1 2 3 8 9 16 ?_
    refine VC.cond rfl (fun hc8 => ?_) (fun hc8 => ?_)
    · -- FT
      refine VC.reg ?_
      refine VO.mv ?_
      refine VO.mv ?_
      refine VO.dec (t := 19) rfl (fun hc9 => ?_) (fun hc9 => ?_)
      · -- FTT
        refine VO.gy rfl ⟨_, rfl, rfl⟩ (.ldA 102 rfl tk26 rfl (cellsAt_one rfl rfl)) ?_
        refine VO.gcallN 110 rfl ⟨_, rfl, rfl⟩ fnOk38 rfl (fun W hW => lship_ok W (Rd.mono h0 (hW.at (i := 0) rfl))) (fun v10 m10 hv10 => ?_)
        subst hv10
        refine VO.y rfl (.pT rfl rfl) ?_
        refine VO.as ?_
        refine VO.keep [102, 0] [(102, mone g1 (.cells [Value.int .i64 (d0.1), Value.int .i64 (d0.2.1), Value.int .u8 (d0.2.2.1), Value.int .i64 (d0.2.2.2.1), Value.slice p0_A4 (d0.2.2.2.2.1.length) (p0_c4), Value.int .i64 (d0.2.2.2.2.2.1), Value.int .i64 (d0.2.2.2.2.2.2.1), Value.slice p0_A7 (d0.2.2.2.2.2.2.2.length) (p0_c7)].toArray 26 (0, 0))), (0, wm W)] (by kernel_rfl) ?_
        refine VO.k7 0 1 2 3 8 9 16 ?_
        refine outBN ?_
        refine outN ?_
        refine VC.seq ?_
        refine VC.rs ?_
        refine VO.mv ?_
        refine VO.y rfl (.notD rfl) ?_
        refine VO.k8 0 1 2 3 8 9 16 31 ?_
        refine VC.cond rfl (fun hc11 => ?_) (fun hc11 => ?_)
        · -- FTTT
          refine VC.rs ?_
          refine VO.as ?_
          refine VO.k8 0 1 2 3 8 9 16 31 ?_
          refine VC.ret ?_
          refine outR ?_
          refine ⟨_, _, res_run (rs := [.tmp 2]) rfl (.tmp rfl .nil), fun W_ hI => out_of (l := []) hI [] rfl rfl (mle_refl _) (fun hS_ => ?_)⟩
          dsimp only [packV]
          all_goals (first | rfl | (exact fin0_lCheck_ok))
        · -- FTTF
          refine VC.skip ?_
          refine outN ?_
          refine VC.rs ?_
          refine VO.as ?_
          refine VO.k8 0 1 2 3 8 9 16 31 ?_
          refine VC.ret ?_
          refine ⟨_, _, res_run (rs := [.tmp 2]) rfl (.tmp rfl .nil), fun W_ hI => out_of (l := []) hI [] rfl rfl (mle_refl _) (fun hS_ => ?_)⟩
          dsimp only [packV]
          all_goals (first | rfl | (exact fin0_lCheck_ok))
      · -- FTF
        refine VO.gN ?_
        refine VO.gN ?_
        refine VO.y rfl (.pF rfl rfl) ?_
        refine VO.as ?_
        refine VO.keep [102, 0] [(102, mone g1 (.cells [Value.int .i64 (d0.1), Value.int .i64 (d0.2.1), Value.int .u8 (d0.2.2.1), Value.int .i64 (d0.2.2.2.1), Value.slice p0_A4 (d0.2.2.2.2.1.length) (p0_c4), Value.int .i64 (d0.2.2.2.2.2.1), Value.int .i64 (d0.2.2.2.2.2.2.1), Value.slice p0_A7 (d0.2.2.2.2.2.2.2.length) (p0_c7)].toArray 26 (0, 0))), (0, wm W)] (by kernel_rfl) ?_
        refine VO.k7 0 1 2 3 8 9 16 ?_
        refine outBN ?_
        refine outN ?_
        refine VC.seq ?_
        refine VC.rs ?_
        refine VO.mv ?_
        refine VO.y rfl (.not rfl) ?_
        refine VO.k8 0 1 2 3 8 9 16 31 ?_
        refine VC.condT rfl ?_
        refine VC.rs ?_
        refine VO.as ?_
        refine VO.k8 0 1 2 3 8 9 16 31 ?_
        refine VC.ret ?_
        refine outR ?_
        refine ⟨_, _, res_run (rs := [.tmp 2]) rfl (.tmp rfl .nil), fun W_ hI => out_of (l := []) hI [] rfl rfl (mle_refl _) (fun hS_ => ?_)⟩
        dsimp only [packV]
        all_goals (first | rfl | (exact fin0_lCheck_ok))
    · -- FF
      refine VC.rs ?_
      refine VO.y rfl (.eql rfl rfl) ?_
      refine VO.as ?_
      refine VO.keep [102, 0] [(102, mone g1 (.cells [Value.int .i64 (d0.1), Value.int .i64 (d0.2.1), Value.int .u8 (d0.2.2.1), Value.int .i64 (d0.2.2.2.1), Value.slice p0_A4 (d0.2.2.2.2.1.length) (p0_c4), Value.int .i64 (d0.2.2.2.2.2.1), Value.int .i64 (d0.2.2.2.2.2.2.1), Value.slice p0_A7 (d0.2.2.2.2.2.2.2.length) (p0_c7)].toArray 26 (0, 0))), (0, wm W)] (by kernel_rfl) ?_
      refine VO.k8 0 1 2 3 8 9 16 23 ?_
      refine VC.cond rfl (fun hc12 => ?_) (fun hc12 => ?_)
      · -- FFT
        refine VC.reg ?_
        refine VO.mv ?_
        refine VO.mv ?_
        refine VO.dec (t := 26) rfl (fun hc13 => ?_) (fun hc13 => ?_)
        · -- FFTT
          refine VO.gy rfl ⟨_, rfl, rfl⟩ (.ldA 102 rfl tk26 rfl (cellsAt_one rfl rfl)) ?_
          refine VO.gcallN 114 rfl ⟨_, rfl, rfl⟩ fnOk39 rfl (fun W hW => lack_ok W (Rd.mono h0 (hW.at (i := 0) rfl))) (fun v14 m14 hv14 => ?_)
          subst hv14
          refine VO.y rfl (.pT rfl rfl) ?_
          refine VO.as ?_
          refine VO.k8 0 1 2 3 8 9 16 23 ?_
          refine outBN ?_
          refine outN ?_
          refine VC.seq ?_
          refine VC.rs ?_
          refine VO.mv ?_
          refine VO.y rfl (.notD rfl) ?_
          refine VO.k9 0 1 2 3 8 9 16 23 31 ?_
          refine VC.cond rfl (fun hc15 => ?_) (fun hc15 => ?_)
          · -- FFTTT
            refine VC.rs ?_
            refine VO.as ?_
            refine VO.keep [102, 0] [(102, mone g1 (.cells [Value.int .i64 (d0.1), Value.int .i64 (d0.2.1), Value.int .u8 (d0.2.2.1), Value.int .i64 (d0.2.2.2.1), Value.slice p0_A4 (d0.2.2.2.2.1.length) (p0_c4), Value.int .i64 (d0.2.2.2.2.2.1), Value.int .i64 (d0.2.2.2.2.2.2.1), Value.slice p0_A7 (d0.2.2.2.2.2.2.2.length) (p0_c7)].toArray 26 (0, 0))), (0, wm W)] (by kernel_rfl) ?_
            refine VO.k9 0 1 2 3 8 9 16 23 31 ?_
            refine VC.ret ?_
            refine outR ?_
            refine ⟨_, _, res_run (rs := [.tmp 2]) rfl (.tmp rfl .nil), fun W_ hI => out_of (l := []) hI [] rfl rfl (mle_refl _) (fun hS_ => ?_)⟩
            dsimp only [packV]
            all_goals (first | rfl | (exact fin0_lCheck_ok))
          · -- FFTTF
            refine VC.skip ?_
            refine outN ?_
            refine VC.rs ?_
            refine VO.as ?_
            refine VO.keep [102, 0] [(102, mone g1 (.cells [Value.int .i64 (d0.1), Value.int .i64 (d0.2.1), Value.int .u8 (d0.2.2.1), Value.int .i64 (d0.2.2.2.1), Value.slice p0_A4 (d0.2.2.2.2.1.length) (p0_c4), Value.int .i64 (d0.2.2.2.2.2.1), Value.int .i64 (d0.2.2.2.2.2.2.1), Value.slice p0_A7 (d0.2.2.2.2.2.2.2.length) (p0_c7)].toArray 26 (0, 0))), (0, wm W)] (by kernel_rfl) ?_
            refine VO.k9 0 1 2 3 8 9 16 23 31 ?_
            refine VC.ret ?_
            refine ⟨_, _, res_run (rs := [.tmp 2]) rfl (.tmp rfl .nil), fun W_ hI => out_of (l := []) hI [] rfl rfl (mle_refl _) (fun hS_ => ?_)⟩
            dsimp only [packV]
            all_goals (first | rfl | (exact fin0_lCheck_ok))
        · -- FFTF
          refine VO.gN ?_
          refine VO.gN ?_
          refine VO.y rfl (.pF rfl rfl) ?_
          refine VO.as ?_
          refine VO.k8 0 1 2 3 8 9 16 23 ?_
          refine outBN ?_
          refine outN ?_
          refine VC.seq ?_
          refine VC.rs ?_
          refine VO.mv ?_
          refine VO.y rfl (.not rfl) ?_
          refine VO.k9 0 1 2 3 8 9 16 23 31 ?_
          refine VC.condT rfl ?_
          refine VC.rs ?_
          refine VO.as ?_
          refine VO.keep [102, 0] [(102, mone g1 (.cells [Value.int .i64 (d0.1), Value.int .i64 (d0.2.1), Value.int .u8 (d0.2.2.1), Value.int .i64 (d0.2.2.2.1), Value.slice p0_A4 (d0.2.2.2.2.1.length) (p0_c4), Value.int .i64 (d0.2.2.2.2.2.1), Value.int .i64 (d0.2.2.2.2.2.2.1), Value.slice p0_A7 (d0.2.2.2.2.2.2.2.length) (p0_c7)].toArray 26 (0, 0))), (0, wm W)] (by kernel_rfl) ?_
          refine VO.k9 0 1 2 3 8 9 16 23 31 ?_
          refine VC.ret ?_
          refine outR ?_
          refine ⟨_, _, res_run (rs := [.tmp 2]) rfl (.tmp rfl .nil), fun W_ hI => out_of (l := []) hI [] rfl rfl (mle_refl _) (fun hS_ => ?_)⟩
          dsimp only [packV]
          all_goals (first | rfl | (exact fin0_lCheck_ok))
      · -- FFF
        refine VC.reg ?_
        refine VO.as ?_
        refine VO.k8 0 1 2 3 8 9 16 23 ?_
        refine outBN ?_
        refine outN ?_
        refine VC.seq ?_
        refine VC.rs ?_
        refine VO.mv ?_
        refine VO.y rfl (.not rfl) ?_
        refine VO.k9 0 1 2 3 8 9 16 23 31 ?_
        refine VC.condT rfl ?_
        refine VC.rs ?_
        refine VO.as ?_
        refine VO.keep [102, 0] [(102, mone g1 (.cells [Value.int .i64 (d0.1), Value.int .i64 (d0.2.1), Value.int .u8 (d0.2.2.1), Value.int .i64 (d0.2.2.2.1), Value.slice p0_A4 (d0.2.2.2.2.1.length) (p0_c4), Value.int .i64 (d0.2.2.2.2.2.1), Value.int .i64 (d0.2.2.2.2.2.2.1), Value.slice p0_A7 (d0.2.2.2.2.2.2.2.length) (p0_c7)].toArray 26 (0, 0))), (0, wm W)] (by kernel_rfl) ?_
        refine VO.k9 0 1 2 3 8 9 16 23 31 ?_
        refine VC.ret ?_
        refine outR ?_
        refine ⟨_, _, res_run (rs := [.tmp 2]) rfl (.tmp rfl .nil), fun W_ hI => out_of (l := []) hI [] rfl rfl (mle_refl _) (fun hS_ => ?_)⟩
        dsimp only [packV]
        all_goals (first | rfl | (exact fin0_lCheck_ok))
end
section
set_option linter.unusedVariables false
def epochAt (l : List DCommit) (n : Int) : Int := match l[n.toNat]? with
  | some c => c.1
  | none => 0
def fitsM (l : List DCommit) (m : DMessage) : Prop := (1 < m.2.2.2.2.2.1 → epochAt l (m.2.2.2.2.2.1 - 2) = m.2.2.2.2.2.2.1) ∧ ∀ c ∈ m.2.2.2.2.2.2.2, c.2.1 ≤ l.length → epochAt l (c.2.1 - 1) = c.1
instance (l : List DCommit) (m : DMessage) : Decidable (fitsM l m) := by unfold fitsM; infer_instance
section
variable {e : Int} {l : List DCommit} {m : DMessage}
theorem lCheck_ship (h : lCheck m = 0) (h2 : m.1 = 2) : shipM m := by
  unfold lCheck at h
  split at h
  · rename_i h3
    rcases h3.2 with h4 | h4 | h4
    · omega
    · exact h4.2
    · omega
  · cases h
end
end
section
set_option linter.unusedVariables false
theorem follows_cons {e n i : Int} {c : DCommit} {r : List DCommit} (h : (cFollowsAt e n i (c :: r)).1 = 0) : cCheck c = 0 ∧ c.2.1 = n + 1 ∧ e ≤ c.1 ∧ (cFollowsAt c.1 c.2.1 (i + 1) r).1 = 0 := by
  unfold cFollowsAt at h
  split at h
  · exact absurd h (by assumption)
  · rename_i h1
    split at h
    · cases h
    · exact ⟨Decidable.not_not.1 h1, by omega, by omega, h⟩
end
section
set_option linter.unusedVariables false
theorem follows_zero : ∀ {l : List DCommit} {e n i : Int}, (cFollowsAt e n i l).1 = 0 → cFollowsAt e n i l = (0, 0)
  | [], _, _, _, _ => rfl
  | c :: r, e, n, i, h => by
    obtain ⟨h1, h2, h3, h4⟩ := follows_cons h
    unfold cFollowsAt
    rw [if_neg (by omega), if_neg (by omega)]
    exact follows_zero h4
end
section
set_option linter.unusedVariables false
set_option linter.unusedSimpArgs false
set_option maxRecDepth 4000
theorem fnOk83 : fnOk Try.prog 83 = true := by kernel_rfl
theorem CopyCommit_ok (W : World) {v0 : List Value} {d0 : DCommit} (h0 : Rd TCommit (wm W) v0 d0) (e0 : d0.2.2.length ≤ 3518437208800) : CallR Try.prog 83 [.agg v0.toArray] W (mnil) (fun v m' => ∃ (s0 : List Value), v = .agg s0.toArray ∧ Ow TCommit m' s0 (d0)) := by
  obtain ⟨p0_A2, p0_c2, rfl, p0_0, p0_1, p0_2⟩ := open_Commit (x0 := d0.1) (x1 := d0.2.1) (x2 := d0.2.2) h0
  simp only [inK] at p0_0
  simp only [inK] at p0_1
  have p0_r2 := Rd.room p0_2
  refine CallR.ofA (n := 11) Try.func83 rfl rfl rfl ?_
  refine VC.rs ?_
  refine VO.box (cs := [Value.int .i64 (d0.1), Value.int .i64 (d0.2.1), Value.slice p0_A2 (d0.2.2.length) (p0_c2)]) 102 rfl rfl rfl (fun g1 => ?_)
  refine VO.alloc 104 rfl tz43 (fun g3 => ?_)
  refine VO.k3 0 1 2 ?_
  refine VC.seq ?_
  refine VC.regD _ 7 [(0, true), (1, true), (2, true), (3, true), (4, true), (5, true), (6, false)] follows (by kernel_rfl) (fun _ h => h.sub [104, 102, 0]) ?_
  refine VD.y rfl rfl (.inl rfl) (.fa rfl tst43 rfl) ?_
  refine VD.y rfl rfl (.inl rfl) (.ld1 102 rfl tk3 rfl (cellsAt_one rfl rfl)) ?_
  refine VD.y rfl rfl (.inl rfl) (.fa rfl tst43 rfl) ?_
  refine VD.y rfl rfl (.inl rfl) (.ld1 102 rfl tk3 rfl (cellsAt_one rfl rfl)) ?_
  refine VD.y rfl rfl (.inl rfl) (.fa rfl tst43 rfl) ?_
  refine VD.y rfl rfl (.inl rfl) (.ld1 102 rfl tk41 rfl (cellsAt_one rfl rfl)) ?_
  refine VD.callN 105 rfl rfl (.inl rfl) fnOk84 rfl (fun _ h => h.sub [104, 102, 0]) (fun W hW => CopyOps_ok W (Rd.mono p0_2 (hW.at (i := 0) rfl)) bd) (fun v5 m5 hv5 => ?_)
  obtain ⟨s5_0, rfl, f5_0⟩ := hv5
  obtain ⟨A5_0, c5_0, eq5_0, l5_0, k5_0⟩ := f5_0.slice
  subst eq5_0
  simp only [maxLen] at k5_0
  refine VD.nil rfl ?_ rfl
  refine VO.y rfl (.bst (cs := [Value.int .i64 (d0.1), Value.int .i64 (d0.2.1), Value.slice A5_0 (d0.2.2.length) (c5_0)]) rfl tst43 tz43 rfl) ?_
  refine VO.store (k := 3) (c' := [Value.int .i64 (d0.1), Value.int .i64 (d0.2.1), Value.slice A5_0 (d0.2.2.length) (c5_0)]) 104 rfl rfl (.inl tk43) rfl rfl rfl rfl rfl ?_
  refine VO.k3 0 1 2 ?_
  refine outN ?_
  refine VC.ret ?_
  refine ⟨_, _, res_run (rs := [.cell 2 43]) rfl (.agg 104 rfl tk43 rfl ⟨_, _, _, mone_self _ _, Nat.le_of_ble_eq_true rfl, rfl⟩ .nil), fun W_ hI => out_of (l := [m5]) hI [105] rfl rfl (mle_refl _) (fun hS_ => ?_)⟩
  dsimp only [packV]
  have he0 : (d0 : Ty.Den TCommit) = d0 := by first | rfl | (simp [*]; done)
  refine ⟨[Value.int .i64 (d0.1), Value.int .i64 (d0.2.1), Value.slice A5_0 (d0.2.2.length) (c5_0)], ?_, ?_⟩
  rotate_left
  · rw [he0]; exact (show Ow TCommit _ _ d0 from (mkO_Commit d0.1 d0.2.1 d0.2.2 hS_ bdk bdk (OwnL.ow (Ow.ownl f5_0 rfl mnil) rfl)))
  all_goals (first | rfl | (simp [*]; done))
theorem fin0_CopyCommits_ok {P : Prop} (h : P := by first | omega | (simp only [List.length_append, List.length_nil, List.length_cons, List.length_take, List.length_drop] at *; omega) | exact e1 _ (List.mem_of_getElem? ‹d0[_]? = some _›)) : P := h
theorem CopyCommits_ok (W : World) {v0 : Value} {d0 : List DCommit} (h0 : Rd (.sl TCommit) (wm W) [v0] d0) (e0 : d0.length ≤ 3518437200000) (e1 : ∀ c ∈ d0, c.2.2.length ≤ 3518437208800) : CallR Try.prog 57 [v0] W (mnil) (fun v m' => ∃ (s0 : Value), v = s0 ∧ Ow (.sl TCommit) m' [s0] (d0)) := by
  obtain ⟨A0, c0, rfl, l0, k0⟩ := h0.slice
  simp only [maxLen] at k0
  refine CallR.ofA (n := 20) Try.func57 rfl rfl rfl ?_
  refine VC.rs ?_
  refine VO.as ?_
  refine VO.k2 0 2 ?_
  refine VC.rs ?_
  refine VO.as ?_
  refine VO.k3 0 2 3 ?_
  refine VC.seq ?_
  refine VC.rs ?_
  refine VO.as ?_
  refine VO.keep [0] [(0, wm W)] (by kernel_rfl) ?_
  refine VO.k4 0 2 3 4 ?_
  refine VC.block ?_
  refine VC.inv ((101, mnil) :: _) (fun _ h => h.nilc 101) ?_
  refine VC.loop (G := Nat × (List DCommit) × (Option Addr) × Nat × Mem) (fun g => [(3, Value.slice (g.2.2.1) ((g.2.1).length) ((g.2.2.2.1))), (4, Value.int .i64 ((((g.1) : Nat) : Int))), (0, Value.slice A0 (d0.length) (c0)), (2, Value.slice none (0) (0))]) (fun g => [(101, (g.2.2.2.2)), (0, wm W)]) (fun g => ((g.1) ≤ d0.length) ∧ ((g.2.1) = d0.take (g.1)) ∧ (Ow (.sl TCommit) (g.2.2.2.2) [.slice (g.2.2.1) (g.2.1).length (g.2.2.2.1)] (g.2.1))) (fun g => d0.length - (g.1)) (0, [], none, 0, mnil) (⟨by omega, by rfl, (Ow.nil TCommit mnil)⟩) ⟨⟨rfl, rfl, rfl, rfl, trivial⟩, fun _ h => h.sub [101, 0]⟩ ?_
  rintro ⟨k, out, out_A, out_c, out_m⟩ ⟨hk, ho, h_out⟩
  replace hk : k ≤ d0.length := hk
  replace ho : out = d0.take k := ho
  replace h_out : Ow (.sl TCommit) out_m [.slice out_A out.length out_c] out := h_out
  show VC _ _ _ _ _ [(3, Value.slice out_A (out.length) (out_c)), (4, Value.int .i64 (((k : Nat) : Int))), (0, Value.slice A0 (d0.length) (c0)), (2, Value.slice none (0) (0))] [(101, out_m), (0, wm W)]
  have l_out : out.length ≤ out_c := by obtain ⟨_, _, he, hl, _⟩ := h_out.slice; simp only [Value.slice.injEq] at he; omega
  have k_out : out_c ≤ 9223372036854775807 := by obtain ⟨_, _, he, _, hl⟩ := h_out.slice; simp only [Value.slice.injEq, maxLen] at he hl; omega
  have hlo : out.length ≤ k := by rw [ho]; simp; omega
  refine VC.seq ?_
  refine VC.rs ?_
  refine VO.mv ?_
  refine VO.mv ?_
  refine VO.y rfl (.lenS rfl tsl24) ?_
  refine VO.y rfl (.lss rfl rfl) ?_
  refine VO.k5 0 2 3 4 8 ?_
  refine VC.cond rfl (fun hc2 => ?_) (fun hc2 => ?_)
  · -- T
    refine VC.skip ?_
    refine outN ?_
    refine VC.seq ?_
    refine VC.block ?_
    refine VC.reg ?_
    refine VO.mv ?_
    refine VO.mv ?_
    refine VO.mv ?_
    obtain ⟨x3, hx3⟩ : ∃ z_, (d0)[k]? = some z_ := ⟨_, List.getElem?_eq_getElem (by exact fin0_CopyCommits_ok)⟩
    obtain ⟨gg3, oo3, ec3, ea3, hce3, hre3⟩ := h0.elem hx3
    cases ea3
    obtain ⟨q3_A2, q3_c2, rfl, q3_0, q3_1, q3_2⟩ := open_Commit (x0 := x3.1) (x1 := x3.2.1) (x2 := x3.2.2) hre3
    simp only [inK] at q3_0
    simp only [inK] at q3_1
    have q3_r2 := Rd.room q3_2
    refine VO.y rfl (.ixI k rfl rfl tsl24 rfl (by exact fin0_CopyCommits_ok)) ?_
    refine VO.y rfl (.ldA 0 rfl tk43 rfl hce3) ?_
    refine VO.callN 104 rfl fnOk83 rfl (fun W hW => CopyCommit_ok W (Rd.mono hre3 (hW.at (i := 0) rfl)) (by exact fin0_CopyCommits_ok)) (fun v4 m4 hv4 => ?_)
    obtain ⟨s4_0, rfl, f4_0⟩ := hv4
    obtain ⟨q4_0_A2, q4_0_c2, q4_0_n2, rfl, q4_0_S, q4_0_0, q4_0_1, q4_0_2⟩ := openO_Commit (x0 := x3.1) (x1 := x3.2.1) (x2 := x3.2.2) f4_0
    simp only [inK] at q4_0_0
    simp only [inK] at q4_0_1
    have q4_0_r2 := Rd.room (q4_0_2.rd (mle_refl _))
    refine VO.inv _ (fun _ h => h.parts (i := 104) rfl q4_0_S [105]) ?_
    refine VO.bsl (cs := [Value.int .i64 (x3.1), Value.int .i64 (x3.2.1), Value.slice q4_0_A2 (x3.2.2.length) (q4_0_c2)]) 107 rfl rfl tsl24 tz43 rfl rfl (fun g6 => ?_)
    refine VO.appO (e := TCommit) 101 105 107 rfl rfl rfl tsl24 tz43 rfl rfl rfl rfl h_out (show Ow TCommit _ _ x3 from (mkO_Commit x3.1 x3.2.1 x3.2.2 (Seps.one (mle_refl _)) (by simp only [inK]; (exact fin0_CopyCommits_ok)) (by simp only [inK]; (exact fin0_CopyCommits_ok)) (OwnL.ow (Ow.ownl q4_0_2 rfl mnil) rfl))) Try.underlying24 (cellsAt_one rfl rfl) (by simp only [maxLen]; (exact fin0_CopyCommits_ok)) (by exact fin0_CopyCommits_ok) (by decide) (fun v8 m8 ho8 => ?_)
    obtain ⟨A8, c8, rfl, l8, k8⟩ := ho8.slice
    simp only [maxLen] at k8
    refine VO.as ?_
    refine VO.k5 0 2 3 4 8 ?_
    refine outBN ?_
    refine outN ?_
    refine VC.reg ?_
    refine VO.mv ?_
    refine VO.y rfl (.add (c := ((k + 1 : Nat) : Int)) rfl rfl (by omega) ⟨by exact fin0_CopyCommits_ok, by exact fin0_CopyCommits_ok⟩) ?_
    refine VO.as ?_
    refine VO.keep [101, 0] [(101, m8), (0, wm W)] (by kernel_rfl) ?_
    refine VO.k5 0 2 3 4 8 ?_
    exact outN ⟨⟨k + 1, out ++ [x3], A8, c8, m8⟩, ⟨by omega, by rw [ho]; exact (take_one ‹_›).symm, ho8⟩, by exact fin0_CopyCommits_ok, ⟨⟨rfl, rfl, rfl, rfl, trivial⟩, fun _ h => Inv.sub h [101, 0]⟩⟩
  · -- F
    refine VC.exit ?_
    refine outE ?_
    refine outE ?_
    refine outBB ?_
    refine outN ?_
    refine VC.rs ?_
    refine VO.mv ?_
    refine VO.as ?_
    refine VO.k5 0 2 3 4 8 ?_
    refine VC.ret ?_
    refine ⟨_, _, res_run (rs := [.tmp 2]) rfl (.tmp rfl .nil), fun W_ hI => out_of (l := [out_m]) hI [101] rfl rfl (mle_refl _) (fun hS_ => ?_)⟩
    dsimp only [packV]
    have he0 : (d0 : Ty.Den (.sl TCommit)) = out := by first | rfl | (rw [ho, List.take_of_length_le (by omega)])
    refine ⟨Value.slice out_A (out.length) (out_c), ?_, ?_⟩
    rotate_left
    · rw [he0]; exact (Ow.up h_out (hS_.1 _ (.head _)))
    all_goals (first | rfl | (simp [*]; done))
end
section
set_option linter.unusedVariables false
theorem vgo_back : ∀ {b : Bytes} {i x y n : Nat}, x < 2 ^ (7 * i) → i ≤ 9 → vgo i x b = some (y, n) → ∃ v, y = x + v * 2 ^ (7 * i) ∧ b = venc v ++ b.drop (n - i) ∧ n = i + (venc v).length ∧ (1 ≤ v ∨ i = 0)
  | [], _, _, _, _, _, _, h => by cases h
  | c :: r, i, x, y, n, hx, hi, h => by
    unfold vgo at h
    split at h
    · cases h
    · rename_i h0
      obtain ⟨t1, t2, t3⟩ := top_add hx hi h0
      have hc := c.toNat_lt
      split at h
      · rename_i h1
        obtain ⟨v, e1, e2, e3, e4⟩ := vgo_back (t3 (by omega)) (by omega) h
        have hv : 1 ≤ v := by omega
        have hd : venc (c.toNat % 128 + 128 * v) = c :: venc v := by
          rw [venc, dif_neg (by omega), show (c.toNat % 128 + 128 * v) / 128 = v by omega, show (c.toNat % 128 + 128 * v) % 128 + 128 = c.toNat by omega]
          simp
        refine ⟨c.toNat % 128 + 128 * v, ?_, ?_, ?_, .inl (by omega)⟩
        · rw [e1, pow_next, Nat.add_mul, Nat.add_assoc, Nat.mul_left_comm, Nat.mul_assoc]
        · rw [hd, show n - i = (n - (i + 1)) + 1 by omega, List.drop_succ_cons, List.cons_append, ← e2]
        · rw [hd, e3, List.length_cons]; omega
      · rename_i h1
        split at h
        · cases h
        · rename_i h2
          simp only [Option.some.injEq, Prod.mk.injEq] at h
          obtain ⟨rfl, rfl⟩ := h
          have hd : venc c.toNat = [c] := by rw [venc, dif_pos (by omega)]; simp
          have hm : c.toNat % 128 = c.toNat := Nat.mod_eq_of_lt (by omega)
          refine ⟨c.toNat, by rw [hm], by rw [hd, show i + 1 - i = 1 by omega]; rfl, by rw [hd]; rfl, by omega⟩
theorem vread_back {b : Bytes} {x n : Nat} (h : vread b = some (x, n)) : b = venc x ++ b.drop n ∧ n = (venc x).length := by
  obtain ⟨v, e1, e2, e3, _⟩ := vgo_back (by decide) (by decide) h
  have : x = v := by simpa using e1
  subst this
  exact ⟨by simpa using e2, by omega⟩
theorem vgo_there : ∀ (v : Nat) {i x : Nat} (r : Bytes), x < 2 ^ (7 * i) → i ≤ 9 → x + v * 2 ^ (7 * i) < 18446744073709551616 → (1 ≤ v ∨ i = 0) → vgo i x (venc v ++ r) = some (x + v * 2 ^ (7 * i), i + (venc v).length) := by
  intro v
  induction v using Nat.strongRecOn with
  | ind v ih =>
    intro i x r hx hi hlt h1
    have h9 : i = 9 → v ≤ 1 := by
      intro h
      subst h
      have : (2 : Nat) ^ (7 * 9) = 9223372036854775808 := by decide
      rw [this] at hlt
      omega
    by_cases hv : v < 128
    · rw [venc, dif_pos hv]
      have ec : (UInt8.ofNat v).toNat = v := by simp; omega
      have h0 : ¬ (i = 9 ∧ (UInt8.ofNat v).toNat > 1) := by rw [ec]; omega
      obtain ⟨t1, t2, t3⟩ := top_add hx hi h0
      show (if _ then _ else _) = _
      rw [if_neg h0, if_neg (by rw [ec]; omega), if_neg (by rw [ec]; omega), ec, Nat.mod_eq_of_lt hv]
      rfl
    · rw [venc, dif_neg hv]
      have ec : (UInt8.ofNat (v % 128 + 128)).toNat = v % 128 + 128 := by simp; omega
      have h0 : ¬ (i = 9 ∧ (UInt8.ofNat (v % 128 + 128)).toNat > 1) := by rw [ec]; omega
      obtain ⟨t1, t2, t3⟩ := top_add hx hi h0
      have e : x + (v % 128 + 128) % 128 * 2 ^ (7 * i) + v / 128 * 2 ^ (7 * (i + 1)) = x + v * 2 ^ (7 * i) := by
        rw [pow_next, ← Nat.mul_assoc, Nat.add_assoc, ← Nat.add_mul]
        congr 2
        omega
      show (if _ then _ else _) = _
      rw [if_neg h0, if_pos (by rw [ec]; omega)]
      show vgo _ _ (venc (v / 128) ++ r) = _
      rw [ih (v / 128) (by omega) r (t3 (by omega)) (by omega) (by rw [ec, e]; exact hlt) (by omega), ec, e, List.length_cons]
      congr 2
      omega
theorem vread_there {x : Nat} (h : x < 18446744073709551616) (r : Bytes) : vread (venc x ++ r) = some (x, (venc x).length) := by
  have := vgo_there x (i := 0) (x := 0) r (by decide) (by decide) (by simpa using h) (.inr rfl)
  rw [Nat.mul_zero, Nat.pow_zero, Nat.mul_one, Nat.zero_add, Nat.zero_add] at this
  exact this
theorem drop_past {B e r : Bytes} {a : Nat} (h : B.drop a = e ++ r) : B.drop (a + e.length) = r := by
  rw [← List.drop_drop, h]; simp
theorem drop_len {B e r : Bytes} {a : Nat} (h : B.drop a = e ++ r) : B.length - a = e.length + r.length := by
  rw [← List.length_drop, h, List.length_append]
theorem shared_take : ∀ (a b : Bytes), a.take (shared a b) = b.take (shared a b)
  | [], b => by rw [shared_nil_left]; rfl
  | a, [] => by rw [shared_nil_right]; rfl
  | x :: a, y :: b => by
    unfold shared
    split
    · rename_i h; rw [List.take_succ_cons, List.take_succ_cons, h, shared_take a b]
    · rfl
theorem drop_le {B e r : Bytes} {a : Nat} (h : B.drop a = e ++ r) (ha : a ≤ B.length) : a + e.length ≤ B.length := by have := drop_len h; omega
section
variable {B last : Bytes} {m : Int} {s e : RS} {x : Int} {t : Bytes}
theorem num_back (hs : rOk B s) (hm : m ≤ 9223372036854775807) (h : rNum B m s = (x, e)) (he : e.2 = false) : s.2 = false ∧ 0 ≤ x ∧ (x ≤ m) ∧ rOk B e ∧ B.drop s.1.toNat = venc x.toNat ++ B.drop e.1.toNat := by
  have hok := rNum_ok (m := m) hs hm
  rw [h] at hok
  by_cases h0 : s.2 = true
  · rw [rNum_bad h0] at h
    cases h
    rw [h0] at he; cases he
  · have h0 : s.2 = false := by simpa using h0
    by_cases h1 : sE (B.drop s.1.toNat) m = 0
    · rw [rNum_some h0 h1] at h
      have hb := s_bounds (B.drop s.1.toNat) m hm
      cases h
      unfold sE sX sN vsmall at *
      cases hv : vread (B.drop s.1.toNat) with
      | none => rw [hv] at h1; cases h1
      | some p =>
        obtain ⟨y, n⟩ := p
        rw [hv] at h1 hb hok
        dsimp only at h1 hb hok ⊢
        by_cases hy : (y : Int) ≤ m
        · rw [if_pos hy] at hok ⊢
          dsimp only at hok ⊢
          obtain ⟨e1, e2⟩ := vread_back hv
          refine ⟨h0, by omega, hy, hok.1, ?_⟩
          rw [show (s.1 + (n : Int)).toNat = s.1.toNat + n by have := hs.1; omega, ← List.drop_drop]
          exact e1
        · rw [if_neg hy] at h1; cases h1
    · rw [rNum_none h0 h1] at h
      cases h
      cases he
theorem num_there {a : Nat} {x : Nat} {r : Bytes} (h : B.drop a = venc x ++ r) (hx : (x : Int) ≤ m) (hm : m ≤ 9223372036854775807) : rNum B m ((a : Int), false) = ((x : Int), (((a + (venc x).length : Nat) : Int), false)) := by
  have hv := vread_there (x := x) (by omega) r
  rw [← h] at hv
  have hs : vsmall (B.drop a) m = some (x, (venc x).length) := by unfold vsmall; rw [hv]; exact if_pos hx
  have h1 : sE (B.drop a) m = 0 := by unfold sE; rw [hs]
  rw [rNum_some rfl (by simpa using h1)]
  unfold sX sN
  simp only [Int.toNat_natCast]
  rw [hs]
  simp
theorem bytes_back {n : Int} (hs : rOk B s) (hn : 0 ≤ n) (h : rBytes B n s = (t, e)) (he : e.2 = false) : s.2 = false ∧ (t.length : Int) = n ∧ rOk B e ∧ B.drop s.1.toNat = t ++ B.drop e.1.toNat := by
  obtain ⟨q1, q2⟩ := hs
  by_cases hb : s.2 = true ∨ (B.length : Int) - s.1 < n
  · rw [rBytes_bad hb] at h
    cases h
    cases he
  · have h0 : s.2 = false := by
      cases hc : s.2 with
      | false => rfl
      | true => exact absurd (.inl hc) hb
    rw [rBytes_good h0 (fun hq => hb (.inr hq))] at h
    have hlt : ¬ (B.length : Int) - s.1 < n := fun hq => hb (.inr hq)
    cases h
    refine ⟨h0, by simp only [List.length_take, List.length_drop]; omega, ⟨by simp only; omega, by simp only; omega⟩, ?_⟩
    rw [show (s.1 + n).toNat = s.1.toNat + n.toNat by omega, ← List.drop_drop, List.take_append_drop]
theorem bytes_there {a : Nat} {r : Bytes} (h : B.drop a = t ++ r) (ha : a ≤ B.length) : rBytes B t.length ((a : Int), false) = (t, (((a + t.length : Nat) : Int), false)) := by
  have hl := drop_len h
  rw [rBytes_good rfl (by simp only; omega)]
  simp only [Int.toNat_natCast]
  rw [h]; simp
theorem text_back (hs : rOk B s) (hm : m ≤ 9223372036854775807) (h : rText B m s = (t, e)) (he : e.2 = false) : s.2 = false ∧ (t.length : Int) ≤ m ∧ rOk B e ∧ B.drop s.1.toNat = venc t.length ++ (t ++ B.drop e.1.toNat) := by
  unfold rText at h
  have hk := rNum_ok (m := m) hs hm
  generalize hn : rNum B m s = p at *
  obtain ⟨x, s1⟩ := p
  dsimp only at h hk
  obtain ⟨h1, h2, h3, h4⟩ := bytes_back hk.1 hk.2.1 h he
  obtain ⟨k1, k2, k3, k4, k5⟩ := num_back hs hm hn h1
  refine ⟨k1, by omega, h3, ?_⟩
  rw [k5, h4, show x.toNat = t.length by omega]
theorem text_there {a : Nat} {r : Bytes} (h : B.drop a = venc t.length ++ (t ++ r)) (ha : a ≤ B.length) (hx : (t.length : Int) ≤ m) (hm : m ≤ 9223372036854775807) : rText B m ((a : Int), false) = (t, (((a + ((venc t.length).length + t.length) : Nat) : Int), false)) := by
  unfold rText
  have hl := drop_len h
  rw [num_there h hx hm]
  dsimp only
  rw [bytes_there (drop_past h) (by omega), Nat.add_assoc]
theorem op_back {o : DOp} (hs : rOk B s) (hl : last.length ≤ 9223372036854775000) (h : rOp B last s = (o, e)) (he : e.2 = false) : s.2 = false ∧ rOk B e ∧ B.drop s.1.toNat = encOp last o ++ B.drop e.1.toNat := by
  unfold rOp at h
  have a1 := rNum_ok (m := 1) hs (by omega)
  generalize ha : rNum B 1 s = a at *
  obtain ⟨pa, sa⟩ := a
  dsimp only at h a1
  have b1 := rNum_ok (m := (last.length : Int)) a1.1 (by omega)
  generalize hb : rNum B last.length sa = b at *
  obtain ⟨pb, sb⟩ := b
  dsimp only at h b1
  have t1 := rText_ok (m := 16) b1.1 (by omega) (by omega)
  generalize ht : rText B 16 sb = tt at *
  obtain ⟨pt, st⟩ := tt
  dsimp only at h t1
  have key : ∀ (st' : RS), st' = (st.1, st.2 || decide (¬ (shared last (last.take pb.toNat ++ pt) : Int) = pb)) → st'.2 = false → s.2 = false ∧ rOk B st' ∧ B.drop s.1.toNat = venc pa.toNat ++ (venc (shared last (last.take pb.toNat ++ pt)) ++ (venc ((last.take pb.toNat ++ pt).length - shared last (last.take pb.toNat ++ pt)) ++ ((last.take pb.toNat ++ pt).drop (shared last (last.take pb.toNat ++ pt)) ++ B.drop st'.1.toNat))) := by
    intro st' hst hf
    subst hst
    simp only [Bool.or_eq_false_iff, decide_eq_false_iff_not, Decidable.not_not] at hf
    obtain ⟨f1, f2⟩ := hf
    obtain ⟨u1, u2, u3, u4⟩ := text_back b1.1 (by omega) ht f1
    obtain ⟨v1, v2, v3, v4, v5⟩ := num_back a1.1 (by omega) hb u1
    obtain ⟨w1, w2, w3, w4, w5⟩ := num_back hs (by omega) ha v1
    refine ⟨w1, ⟨u3.1, u3.2⟩, ?_⟩
    have hlen : (last.take pb.toNat).length = pb.toNat := by simp; omega
    have hsh : shared last (last.take pb.toNat ++ pt) = pb.toNat := by omega
    rw [hsh, w5, v5, u4]
    congr 2
    rw [List.length_append, hlen, show pb.toNat + pt.length - pb.toNat = pt.length by omega]
    congr 1
    rw [List.drop_append, hlen, Nat.sub_self, List.drop_zero, List.drop_of_length_le (Nat.le_of_eq hlen)]
    simp
  by_cases hp : pa = 1
  · rw [if_pos hp] at h
    generalize hv : rText B 32 (st.1, st.2 || decide (¬ (shared last (last.take pb.toNat ++ pt) : Int) = pb)) = vv at *
    obtain ⟨pv, sv⟩ := vv
    cases h
    have hok : rOk B (st.1, st.2 || decide (¬ (shared last (last.take pb.toNat ++ pt) : Int) = pb)) := ⟨t1.1.1, t1.1.2⟩
    obtain ⟨x1, x2, x3, x4⟩ := text_back hok (by omega) hv he
    obtain ⟨y1, y2, y3⟩ := key _ rfl x1
    refine ⟨y1, x3, ?_⟩
    rw [y3, hp, x4, enc_put rfl]
    simp [venc_last]
  · rw [if_neg hp] at h
    cases h
    obtain ⟨y1, y2, y3⟩ := key _ rfl he
    refine ⟨y1, y2, ?_⟩
    rw [show pa = 0 by omega] at y3
    rw [y3, enc_del rfl]
    simp [venc_last]
theorem op_there {a : Nat} {o : DOp} {r : Bytes} (h : B.drop a = encOp last o ++ r) (ha : a ≤ B.length) (ho : opOk o) (hl : last.length ≤ 9223372036854775000) : rOp B last ((a : Int), false) = (o, (((a + (encOp last o).length : Nat) : Int), false)) := by
  obtain ⟨o1, o2, o3, o4⟩ := ho
  have hsl := shared_le last o.2.1
  have hkey : last.take (shared last o.2.1) ++ o.2.1.drop (shared last o.2.1) = o.2.1 := by rw [shared_take last o.2.1, List.take_append_drop]
  obtain ⟨p, k, v⟩ := o
  dsimp only at *
  have e16 : k.length - shared last k = (k.drop (shared last k)).length := by simp
  have hen : encOp last (p, k, v) = venc (if p = true then 1 else 0) ++ (venc (shared last k) ++ (venc (k.drop (shared last k)).length ++ (k.drop (shared last k) ++ (if p = true then venc v.length ++ v else [])))) := by
    unfold encOp
    dsimp only
    rw [← e16]
    cases p <;> simp [venc_last]
  rw [hen] at h ⊢
  have hL := drop_le h ha
  rw [List.append_assoc] at h
  have n1 := num_there (B := B) (m := 1) h (by split <;> omega) (by omega)
  have h2 := drop_past h
  have l2 := drop_le h ha
  rw [List.append_assoc] at h2
  have n2 := num_there (B := B) (m := last.length) h2 (by omega) (by omega)
  have h3 := drop_past h2
  have l3 := drop_le h2 l2
  rw [List.append_assoc, List.append_assoc] at h3
  have n3 := text_there (B := B) (m := 16) h3 l3 (by simp only [List.length_drop]; omega) (by omega)
  have h4 := drop_past (drop_past h3)
  have l4 := drop_le (drop_past h3) (drop_le h3 l3)
  unfold rOp
  dsimp only
  rw [n1]
  dsimp only
  rw [n2]
  dsimp only
  rw [n3]
  dsimp only
  rw [Int.toNat_natCast, hkey]
  have eb : (false || decide (¬ (shared last k : Int) = (shared last k : Int))) = false := by simp
  rw [eb]
  cases p with
  | true =>
    simp only [if_true] at h4 l4 ⊢
    rw [if_pos (by rfl)]
    rw [List.append_assoc] at h4
    have n4 := text_there (B := B) (m := 32) h4 l4 (by omega) (by omega)
    rw [Nat.add_assoc] at n4
    rw [n4]
    simp only [List.length_append, Nat.add_assoc]
  | false =>
    simp only [Bool.false_eq_true, if_false]
    rw [if_neg (by decide)]
    have : v = [] := by simpa using o4
    subst this
    simp only [List.length_append, List.length_nil, Nat.add_assoc, Nat.add_zero]
end
theorem pOps_back {B : Bytes} : ∀ (n : Nat) {last : Bytes} {s e : RS} {l : List DOp}, rOk B s → last.length + 16 * n ≤ 1000000 → pOps B n last s = (l, e) → e.2 = false → s.2 = false ∧ rOk B e ∧ B.drop s.1.toNat = encOps last l ++ B.drop e.1.toNat ∧ l.length = n
  | 0, last, s, e, l, hs, hl, h, he => by
    cases h
    exact ⟨he, hs, rfl, rfl⟩
  | n + 1, last, s, e, l, hs, hl, h, he => by
    unfold pOps at h
    by_cases h0 : s.2 = true
    · rw [if_pos h0] at h
      cases h
      rw [h0] at he; cases he
    · rw [if_neg h0] at h
      have hk := rOp_ok (last := last) hs (by omega)
      generalize ho : rOp B last s = p at *
      obtain ⟨o, s1⟩ := p
      dsimp only at h hk
      generalize hr : pOps B n o.2.1 s1 = q at *
      obtain ⟨l1, e1⟩ := q
      cases h
      obtain ⟨a1, a2, a3, a4⟩ := pOps_back n hk.1 (by omega) hr he
      obtain ⟨b1, b2, b3⟩ := op_back hs (by omega) ho a1
      refine ⟨b1, a2, ?_, by simp [a4]⟩
      rw [b3, a3, encOps, List.append_assoc]
theorem pOps_there {B : Bytes} : ∀ {l : List DOp} {last : Bytes} {a : Nat} {r : Bytes}, B.drop a = encOps last l ++ r → a ≤ B.length → (∀ o ∈ l, opOk o) → last.length ≤ 16 → pOps B l.length last ((a : Int), false) = (l, (((a + (encOps last l).length : Nat) : Int), false))
  | [], last, a, r, h, ha, ho, hl => rfl
  | o :: l, last, a, r, h, ha, ho, hl => by
    rw [encOps, List.append_assoc] at h
    have h1 := op_there h ha (ho o (.head _)) (by omega)
    have h2 := pOps_there (drop_past h) (drop_le h ha) (fun o h => ho o (.tail _ h)) (ho o (.head _)).2.1
    rw [List.length_cons]
    unfold pOps
    rw [if_neg (by simp), h1]
    dsimp only
    rw [h2, encOps, List.length_append, Nat.add_assoc]
theorem bRead_back {B : Bytes} {l : List DOp} {n : Int} (h : bRead B = (l, n, 0)) : batchCheck l = 0 ∧ 0 ≤ n ∧ n ≤ B.length ∧ B = batchEnc l ++ B.drop n.toNat := by
  have h0 : rOk B (0, false) := ⟨Int.le_refl _, by simp⟩
  have hk := rNum_ok (m := 8) h0 (by omega)
  unfold bRead at h
  generalize hn : rNum B 8 (0, false) = p at *
  obtain ⟨k, s⟩ := p
  dsimp only at h hk
  generalize hr : pOps B k.toNat [] s = q at *
  obtain ⟨l1, e⟩ := q
  dsimp only at h
  by_cases hb : e.2 = true ∨ ¬ batchCheck l1 = 0
  · rw [if_pos hb] at h
    simp at h
  · rw [if_neg hb] at h
    have he : e.2 = false := by
      cases hc : e.2 with
      | false => rfl
      | true => exact absurd (.inl hc) hb
    have hc : batchCheck l1 = 0 := Decidable.byContradiction fun hq => hb (.inr hq)
    cases h
    obtain ⟨a1, a2, a3, a4⟩ := pOps_back _ hk.1 (by have := hk.2.2.2.1 (by omega); simp; omega) hr he
    obtain ⟨b1, b2, b3, b4, b5⟩ := num_back h0 (by omega) hn a1
    refine ⟨hc, a2.1, a2.2, ?_⟩
    have e0 : B = B.drop ((0 : Int), false).1.toNat := rfl
    rw [batchEnc, a4, List.append_assoc, ← a3, ← b5]; rfl
theorem bRead_there {l : List DOp} (h : batchCheck l = 0) (r : Bytes) : bRead (batchEnc l ++ r) = (l, ((batchEnc l).length : Int), 0) := by
  have hl := batch_len h
  have h1 : (batchEnc l ++ r).drop 0 = venc l.length ++ (encOps [] l ++ r) := by rw [batchEnc, List.append_assoc]; rfl
  have n1 := num_there (m := 8) h1 (by omega) (by omega)
  have n2 := pOps_there (drop_past h1) (drop_le h1 (Nat.zero_le _)) (fun o ho => batchCheck_mem h ho) (Nat.zero_le _)
  unfold bRead
  rw [show ((0 : Int), false) = (((0 : Nat) : Int), false) from rfl, n1]
  dsimp only
  rw [Int.toNat_natCast, n2]
  dsimp only
  rw [if_neg (by rw [h]; decide)]
  simp [batchEnc]
theorem bRead_cases (B : Bytes) : (bRead B).2.2 = 0 ∨ bRead B = ([], 0, 5) := by
  unfold bRead
  dsimp only
  split
  · exact .inr rfl
  · exact .inl rfl
theorem bRead_fits (B : Bytes) : (bRead B).1.length ≤ 8 ∧ 0 ≤ (bRead B).2.1 ∧ (bRead B).2.1 ≤ B.length ∧ ((bRead B).2.2 = 0 ∨ (bRead B).2.2 = 5) := by
  rcases bRead_cases B with h0 | h0
  · generalize hp : bRead B = p at *
    obtain ⟨m, n, f⟩ := p
    dsimp only at h0
    subst h0
    obtain ⟨a1, a2, a3, a4⟩ := bRead_back hp
    exact ⟨(batch_len a1).2, a2, a3, .inl rfl⟩
  · rw [h0]; exact ⟨by decide, by decide, by simp, .inr rfl⟩
theorem encOps_len : ∀ {l : List DOp} {last : Bytes}, (∀ o ∈ l, opOk o) → (encOps last l).length ≤ 79 * l.length
  | [], _, _ => by simp [encOps]
  | o :: l, last, h => by
    have h1 := encOp_len (last := last) (h o (.head _))
    have h2 := encOps_len (l := l) (last := o.2.1) (fun o h' => h o (.tail _ h'))
    rw [encOps, List.length_append, List.length_cons]; omega
theorem batchEnc_len {l : List DOp} (h : batchCheck l = 0) : (batchEnc l).length ≤ 642 := by
  have h1 := encOps_len (last := []) (fun o ho => batchCheck_mem h ho)
  have h2 := (batch_len h).2
  have h3 := venc_len (x := l.length) (by omega)
  unfold batchEnc; rw [List.length_append]; omega
theorem bAppend_len (b : Bytes) (l : List DOp) : (bAppend b l).1.length ≤ b.length + 642 := by
  unfold bAppend
  split
  · rename_i h; have := batchEnc_len h; simp; omega
  · simp
end
section
set_option linter.unusedVariables false
set_option linter.unusedSimpArgs false
set_option maxRecDepth 4000
theorem fnOk101 : fnOk Try.prog 101 = true := by kernel_rfl
theorem fnOk103 : fnOk Try.prog 103 = true := by kernel_rfl
theorem fnOk32 : fnOk Try.prog 32 = true := by kernel_rfl
theorem fnOk52 : fnOk Try.prog 52 = true := by kernel_rfl
theorem fnOk82 : fnOk Try.prog 82 = true := by kernel_rfl
theorem fnOk91 : fnOk Try.prog 91 = true := by kernel_rfl
theorem fnOk92 : fnOk Try.prog 92 = true := by kernel_rfl
theorem tz113 : tz Try.prog 113 = some [.slice none 0 0, .int .i64 0, .bool false] := by kernel_rfl
theorem fin0_bRead_ok {P : Prop} (h : P := by have hf := ops_end hp (by first | exact .inl (by omega) | exact .inr (by assumption)); first | (rw [bRead_bad (Prod.ext hf.1 hf.2) (by first | exact .inl (by assumption) | exact .inr (by assumption))] <;> rfl) | (rw [bRead_good (Prod.ext hf.1 hf.2) (by assumption) (by omega)] <;> rfl)) : P := h
theorem bRead_ok (W : World) {v0 : Value} {d0 : List UInt8} (h0 : Rd (.sl .byte) (wm W) [v0] d0) : CallR Try.prog 97 [v0] W (mnil) (fun v m' => ∃ (s0 : Value), v = .tuple #[s0, .int .i64 ((bRead d0).2.1), .int .i64 ((bRead d0).2.2)] ∧ Ow (.sl TOp) m' [s0] ((bRead d0).1)) := by
  obtain ⟨A0, c0, rfl, l0, k0⟩ := h0.slice
  simp only [maxLen] at k0
  refine CallR.ofA (n := 48) Try.func97 rfl rfl rfl ?_
  refine VC.rs ?_
  refine VO.as ?_
  refine VO.as ?_
  refine VO.as ?_
  refine VO.k4 0 2 3 4 ?_
  refine VC.rs ?_
  refine VO.mv ?_
  refine VO.y rfl (.bst (cs := [Value.slice A0 (d0.length) (c0), Value.int .i64 (0), Value.bool false]) rfl tst113 tz113 rfl) ?_
  refine VO.box (cs := [Value.slice A0 (d0.length) (c0), Value.int .i64 (0), Value.bool false]) 102 rfl rfl rfl (fun g1 => ?_)
  refine VO.as ?_
  refine VO.k5 0 2 3 4 5 ?_
  refine VC.rs ?_
  refine VO.as ?_
  refine VO.keep [102, 0] [(102, mone g1 (.cells [Value.slice A0 (d0.length) (c0), Value.int .i64 (0), Value.bool false].toArray 113 (0, 0))), (0, wm W)] (by kernel_rfl) ?_
  refine VO.k6 0 2 3 4 5 6 ?_
  refine VC.seq ?_
  refine VC.rs ?_
  refine VO.mv ?_
  refine VO.call 102 rfl fnOk102 rfl rfl (fun W hW => bNum_ok W (d0 := (d0, 0, false)) (hW.at (i := 102) rfl) (Rd.mono h0 (hW.out (i := 102) (j := 0) rfl rfl)) bdk 8 bdk (by first | assumption | exact ⟨by omega, by omega⟩ | exact ⟨by (simp; done), by (simp; done)⟩)) (fun v3 m3 hv3 => ?_)
  try dsimp only at hv3
  obtain ⟨rfl, rfl, w3_0_1⟩ := hv3
  have hfa4 := (rNum_ok (B := d0) (m := 8) (s := (0, false)) (by first | assumption | exact ⟨by omega, by omega⟩ | exact ⟨by (simp; done), by (simp; done)⟩) (by omega)).1
  have hfa5 := (rNum_ok (B := d0) (m := 8) (s := (0, false)) (by first | assumption | exact ⟨by omega, by omega⟩ | exact ⟨by (simp; done), by (simp; done)⟩) (by omega)).1.1
  have hfa6 := (rNum_ok (B := d0) (m := 8) (s := (0, false)) (by first | assumption | exact ⟨by omega, by omega⟩ | exact ⟨by (simp; done), by (simp; done)⟩) (by omega)).1.2
  have hfa7 := (rNum_ok (B := d0) (m := 8) (s := (0, false)) (by first | assumption | exact ⟨by omega, by omega⟩ | exact ⟨by (simp; done), by (simp; done)⟩) (by omega)).2
  simp only [inK] at w3_0_1
  refine VO.as ?_
  refine VO.k7 0 2 3 4 5 6 7 ?_
  refine VC.block ?_
  refine VC.inv ((108, mnil) :: _) (fun _ h => h.nilc 108) ?_
  refine VC.loop (G := Int × (List UInt8) × (List DOp) × (Option Addr) × Nat × Mem × Int × Bool) (fun g => [(2, Value.slice (g.2.2.2.1) ((g.2.2.1).length) ((g.2.2.2.2.1))), (6, str ((g.2.1))), (7, Value.int .i64 ((g.1))), (0, Value.slice A0 (d0.length) (c0)), (3, Value.int .i64 (0)), (4, Value.int .i64 (0)), (5, Value.pointer (some ⟨g1, 0, none⟩))]) (fun g => [(108, (g.2.2.2.2.2.1)), (102, mone g1 (.cells [Value.slice A0 (d0.length) (c0), Value.int .i64 ((g.2.2.2.2.2.2.1)), Value.bool (g.2.2.2.2.2.2.2)].toArray 113 (0, 0))), (0, wm W)]) (fun g => (pOps d0 (rNum d0 8 (0, false)).1.toNat [] (rNum d0 8 (0, false)).2 = ((g.2.2.1) ++ (pOps d0 (g.1).toNat (g.2.1) ((g.2.2.2.2.2.2.1), (g.2.2.2.2.2.2.2))).1, (pOps d0 (g.1).toNat (g.2.1) ((g.2.2.2.2.2.2.1), (g.2.2.2.2.2.2.2))).2)) ∧ (rOk d0 ((g.2.2.2.2.2.2.1), (g.2.2.2.2.2.2.2))) ∧ ((g.1) ≤ 8) ∧ ((g.2.2.1).length + (g.1).toNat ≤ 8) ∧ ((g.2.1).length + 16 * (g.1).toNat ≤ 128) ∧ (OwnL TOp (g.2.2.2.2.2.1) mnil (.slice (g.2.2.2.1) (g.2.2.1).length (g.2.2.2.2.1)) (g.2.2.1))) (fun g => (g.1).toNat) ((rNum d0 8 (0, false)).1, [], [], none, 0, mnil, (rNum d0 8 (0, false)).2.1, (rNum d0 8 (0, false)).2.2) (⟨by rfl, by assumption, by omega, by (simp; omega), by (simp; omega), (OwnL.nil TOp mnil mnil)⟩) ⟨⟨rfl, rfl, rfl, rfl, rfl, rfl, rfl, trivial⟩, fun _ h => h.sub [108, 102, 0]⟩ ?_
  rintro ⟨k, last, l, l_A, l_c, l_m, at_, bad⟩ ⟨hp, hok, hk, hlen, hla, h_l⟩
  replace hp : pOps d0 (rNum d0 8 (0, false)).1.toNat [] (rNum d0 8 (0, false)).2 = (l ++ (pOps d0 k.toNat last (at_, bad)).1, (pOps d0 k.toNat last (at_, bad)).2) := hp
  replace hok : rOk d0 (at_, bad) := hok
  replace hk : k ≤ 8 := hk
  replace hlen : l.length + k.toNat ≤ 8 := hlen
  replace hla : last.length + 16 * k.toNat ≤ 128 := hla
  replace h_l : OwnL TOp l_m mnil (.slice l_A l.length l_c) l := h_l
  show VC _ _ _ _ _ [(2, Value.slice l_A (l.length) (l_c)), (6, str (last)), (7, Value.int .i64 (k)), (0, Value.slice A0 (d0.length) (c0)), (3, Value.int .i64 (0)), (4, Value.int .i64 (0)), (5, Value.pointer (some ⟨g1, 0, none⟩))] [(108, l_m), (102, mone g1 (.cells [Value.slice A0 (d0.length) (c0), Value.int .i64 (at_), Value.bool bad].toArray 113 (0, 0))), (0, wm W)]
  have l_l : l.length ≤ l_c := by obtain ⟨_, _, he, hl, _⟩ := h_l.slice; simp only [Value.slice.injEq] at he; omega
  have k_l : l_c ≤ 9223372036854775807 := by obtain ⟨_, _, he, _, hl⟩ := h_l.slice; simp only [Value.slice.injEq, maxLen] at he hl; omega
  obtain ⟨hoka, hokb⟩ := (show 0 ≤ at_ ∧ at_ ≤ d0.length from hok)
  refine VC.seq ?_
  refine VC.rs ?_
  refine VO.mv ?_
  refine VO.y rfl (.gtr rfl rfl) ?_
  refine VO.mv ?_
  refine VO.dec (t := 16) rfl (fun hc9 => ?_) (fun hc9 => ?_)
  · -- T
    refine VO.gy rfl ⟨_, rfl, rfl⟩ (.mv rfl) ?_
    refine VO.gy rfl ⟨_, rfl, rfl⟩ (.nilp rfl) ?_
    refine VO.gy rfl ⟨_, rfl, rfl⟩ (.fa rfl tst113 rfl) ?_
    refine VO.gy rfl ⟨_, rfl, rfl⟩ (.ld1 102 rfl tk4 rfl (cellsAt_one rfl rfl)) ?_
    refine VO.gy rfl ⟨_, rfl, rfl⟩ (.not rfl) ?_
    refine VO.y rfl (.pT rfl rfl) ?_
    refine VO.k8 0 2 3 4 5 6 7 22 ?_
    refine VC.condBN rfl (fun hc10 => ?_) (fun hc10 => ?_)
    · -- TT
      refine VC.skip ?_
      refine outN ?_
      refine VC.seq ?_
      refine VC.block ?_
      refine VC.rs ?_
      refine VO.mv ?_
      refine VO.mv ?_
      refine VO.call 102 rfl fnOk103 rfl rfl (fun W hW => bOp_ok W (d0 := (d0, at_, bad)) (hW.at (i := 102) rfl) (Rd.mono h0 (hW.out (i := 102) (j := 0) rfl rfl)) bdk last bdm (by first | assumption | exact ⟨by omega, by omega⟩ | exact ⟨by (simp; done), by (simp; done)⟩) bd) (fun v11 m11 hv11 => ?_)
      try dsimp only at hv11
      obtain ⟨s11_0, rfl, f11_0, rfl, w11_0_1⟩ := hv11
      have hfa12 := (rOp_ok (B := d0) (last := last) (s := (at_, bad)) (by first | assumption | exact ⟨by omega, by omega⟩ | exact ⟨by (simp; done), by (simp; done)⟩) (by omega)).1
      have hfa13 := (rOp_ok (B := d0) (last := last) (s := (at_, bad)) (by first | assumption | exact ⟨by omega, by omega⟩ | exact ⟨by (simp; done), by (simp; done)⟩) (by omega)).1.1
      have hfa14 := (rOp_ok (B := d0) (last := last) (s := (at_, bad)) (by first | assumption | exact ⟨by omega, by omega⟩ | exact ⟨by (simp; done), by (simp; done)⟩) (by omega)).1.2
      have hfa15 := (rOp_ok (B := d0) (last := last) (s := (at_, bad)) (by first | assumption | exact ⟨by omega, by omega⟩ | exact ⟨by (simp; done), by (simp; done)⟩) (by omega)).2.1
      have hfa16 := (rOp_ok (B := d0) (last := last) (s := (at_, bad)) (by first | assumption | exact ⟨by omega, by omega⟩ | exact ⟨by (simp; done), by (simp; done)⟩) (by omega)).2.2
      simp only [inK] at w11_0_1
      obtain ⟨rfl, q11_0_1, q11_0_2⟩ := open_Op (x0 := ((rOp d0 last (at_, bad)).1).1) (x1 := ((rOp d0 last (at_, bad)).1).2.1) (x2 := ((rOp d0 last (at_, bad)).1).2.2) (f11_0.rd (mle_refl _))
      simp only [maxLen] at q11_0_1
      simp only [maxLen] at q11_0_2
      refine VO.alloc 118 rfl tz40 (fun g17 => ?_)
      refine VO.store (k := 3) (c' := [Value.bool (((rOp d0 last (at_, bad)).1).1), str (((rOp d0 last (at_, bad)).1).2.1), str (((rOp d0 last (at_, bad)).1).2.2)]) 118 rfl rfl (.inl tk40) rfl rfl rfl rfl rfl ?_
      refine VO.keep [118, 102, 108, 0] [(118, mone g17 (.cells [Value.bool (((rOp d0 last (at_, bad)).1).1), str (((rOp d0 last (at_, bad)).1).2.1), str (((rOp d0 last (at_, bad)).1).2.2)].toArray 40 (0, 0))), (102, mone g1 (.cells [Value.slice A0 (d0.length) (c0), Value.int .i64 ((rOp d0 last (at_, bad)).2.1), Value.bool ((rOp d0 last (at_, bad)).2.2)].toArray 113 (0, 0))), (108, l_m), (0, wm W)] (by kernel_rfl) ?_
      refine VO.k9 0 2 3 4 5 6 7 8 22 ?_
      refine VC.rs ?_
      refine VO.mv ?_
      refine VO.y rfl (.ldA 118 rfl tk40 rfl (cellsAt_one rfl rfl)) ?_
      refine VO.bsl (cs := [Value.bool (((rOp d0 last (at_, bad)).1).1), str (((rOp d0 last (at_, bad)).1).2.1), str (((rOp d0 last (at_, bad)).1).2.2)]) 120 rfl rfl tsl41 tz40 rfl rfl (fun g19 => ?_)
      obtain ⟨mo21, cs21, hM21, hA21, hC21⟩ := h_l
      refine VO.app 108 rfl rfl rfl tsl41 tz40 rfl rfl hM21 hA21 (.row 120 _ _ _ 1 1 _ _ Try.underlying41 rfl (cellsAt_one rfl rfl)) (by simp [Value.oneCell']) bdm bd (by decide) (fun v21 m21 hN21 => ?_)
      have ho21 : OwnL TOp m21 mnil v21 (l ++ [((rOp d0 last (at_, bad)).1)]) := OwnL.one hC21 hN21 (show Rd TOp _ _ ((rOp d0 last (at_, bad)).1) from (mk_Op (m := _) (((rOp d0 last (at_, bad)).1).1) (((rOp d0 last (at_, bad)).1).2.1) (((rOp d0 last (at_, bad)).1).2.2) bdm bdm))
      obtain ⟨A21, c21, rfl, l21, k21⟩ := ho21.slice
      simp only [maxLen] at k21
      refine VO.as ?_
      refine VO.k9 0 2 3 4 5 6 7 8 22 ?_
      refine VC.reg ?_
      refine VO.y rfl (.fa rfl tst40 rfl) ?_
      refine VO.y rfl (.ld1 118 rfl tk9 rfl (cellsAt_one rfl rfl)) ?_
      refine VO.as ?_
      refine VO.k9 0 2 3 4 5 6 7 8 22 ?_
      refine outBN ?_
      refine outN ?_
      refine VC.reg ?_
      refine VO.mv ?_
      refine VO.y rfl (.sub rfl rfl rfl ⟨bd, bd⟩) ?_
      refine VO.as ?_
      refine VO.keep [118, 102, 108, 0] [(118, mone g17 (.cells [Value.bool (((rOp d0 last (at_, bad)).1).1), str (((rOp d0 last (at_, bad)).1).2.1), str (((rOp d0 last (at_, bad)).1).2.2)].toArray 40 (0, 0))), (102, mone g1 (.cells [Value.slice A0 (d0.length) (c0), Value.int .i64 ((rOp d0 last (at_, bad)).2.1), Value.bool ((rOp d0 last (at_, bad)).2.2)].toArray 113 (0, 0))), (108, m21), (0, wm W)] (by kernel_rfl) ?_
      refine VO.k9 0 2 3 4 5 6 7 8 22 ?_
      exact outN ⟨⟨k - 1, ((rOp d0 last (at_, bad)).1).2.1, l ++ [((rOp d0 last (at_, bad)).1)], A21, c21, m21, (rOp d0 last (at_, bad)).2.1, (rOp d0 last (at_, bad)).2.2⟩, ⟨by exact ops_step hp (by omega) (by assumption), by assumption, by omega, by (simp only [List.length_append, List.length_cons, List.length_nil]; omega), by dsimp only; omega, ho21⟩, bd, ⟨⟨rfl, rfl, rfl, rfl, rfl, rfl, rfl, trivial⟩, fun _ h => Inv.sub h [108, 102, 0]⟩⟩
    · -- TF
      refine VC.exit ?_
      refine outE ?_
      refine outE ?_
      refine outBB ?_
      refine outN ?_
      refine VC.seq ?_
      refine VC.rs ?_
      refine VO.mv ?_
      refine VO.y rfl (.nilp rfl) ?_
      refine VO.y rfl (.fa rfl tst113 rfl) ?_
      refine VO.y rfl (.ld1 102 rfl tk4 rfl (cellsAt_one rfl rfl)) ?_
      refine VO.mv ?_
      refine VO.known (t := 38) true rfl hc10 ?_
      refine VO.gN ?_
      refine VO.gN ?_
      refine VO.gN ?_
      refine VO.y rfl (.pT rfl rfl) ?_
      refine VO.keep [108, 102, 0] [(108, l_m), (102, mone g1 (.cells [Value.slice A0 (d0.length) (c0), Value.int .i64 (at_), Value.bool bad].toArray 113 (0, 0))), (0, wm W)] (by kernel_rfl) ?_
      refine VO.k9 0 2 3 4 5 6 7 22 42 ?_
      refine VC.condT rfl ?_
      refine VC.rs ?_
      refine VO.as ?_
      refine VO.as ?_
      refine VO.as ?_
      refine VO.k9 0 2 3 4 5 6 7 22 42 ?_
      refine VC.ret ?_
      refine outR ?_
      refine ⟨_, _, res_run (rs := [.tmp 2, .tmp 3, .tmp 4]) rfl (.tmp rfl (.tmp rfl (.tmp rfl .nil))), fun W_ hI => out_of (l := []) hI [] rfl rfl (mle_refl _) (fun hS_ => ?_)⟩
      dsimp only [packV]
      have he0 : ((bRead d0).1 : Ty.Den (.sl TOp)) = [] := by first | rfl | (exact fin0_bRead_ok)
      refine ⟨Value.slice none (0) (0), ?_, ?_⟩
      rotate_left
      · rw [he0]; exact (Ow.nil _ _)
      all_goals (first | rfl | (exact fin0_bRead_ok))
  · -- F
    refine VO.gN ?_
    refine VO.gN ?_
    refine VO.gN ?_
    refine VO.gN ?_
    refine VO.gN ?_
    refine VO.y rfl (.pF rfl rfl) ?_
    refine VO.k8 0 2 3 4 5 6 7 22 ?_
    refine VC.condF rfl ?_
    refine VC.exit ?_
    refine outE ?_
    refine outE ?_
    refine outBB ?_
    refine outN ?_
    refine VC.seq ?_
    refine VC.rs ?_
    refine VO.mv ?_
    refine VO.y rfl (.nilp rfl) ?_
    refine VO.y rfl (.fa rfl tst113 rfl) ?_
    refine VO.y rfl (.ld1 102 rfl tk4 rfl (cellsAt_one rfl rfl)) ?_
    refine VO.mv ?_
    refine VO.decB (t := 38) rfl (fun hc22 => ?_) (fun hc22 => ?_)
    · -- FT
      refine VO.gN ?_
      refine VO.gN ?_
      refine VO.gN ?_
      refine VO.y rfl (.pT rfl rfl) ?_
      refine VO.keep [108, 102, 0] [(108, l_m), (102, mone g1 (.cells [Value.slice A0 (d0.length) (c0), Value.int .i64 (at_), Value.bool bad].toArray 113 (0, 0))), (0, wm W)] (by kernel_rfl) ?_
      refine VO.k9 0 2 3 4 5 6 7 22 42 ?_
      refine VC.condT rfl ?_
      refine VC.rs ?_
      refine VO.as ?_
      refine VO.as ?_
      refine VO.as ?_
      refine VO.k9 0 2 3 4 5 6 7 22 42 ?_
      refine VC.ret ?_
      refine outR ?_
      refine ⟨_, _, res_run (rs := [.tmp 2, .tmp 3, .tmp 4]) rfl (.tmp rfl (.tmp rfl (.tmp rfl .nil))), fun W_ hI => out_of (l := []) hI [] rfl rfl (mle_refl _) (fun hS_ => ?_)⟩
      dsimp only [packV]
      have he0 : ((bRead d0).1 : Ty.Den (.sl TOp)) = [] := by first | rfl | (exact fin0_bRead_ok)
      refine ⟨Value.slice none (0) (0), ?_, ?_⟩
      rotate_left
      · rw [he0]; exact (Ow.nil _ _)
      all_goals (first | rfl | (exact fin0_bRead_ok))
    · -- FF
      refine VO.gy rfl ⟨_, rfl, rfl⟩ (.mv rfl) ?_
      refine VO.gcallN 123 rfl ⟨_, rfl, rfl⟩ fnOk89 rfl (fun W hW => bCheck_ok W (OwnL.rd h_l (hW.at (i := 108) rfl) (mle_nil _))) (fun v23 m23 hv23 => ?_)
      subst hv23
      have hfa24 := batchCheck_range l
      refine VO.gy rfl ⟨_, rfl, rfl⟩ (.neq rfl rfl) ?_
      refine VO.y rfl (.pF rfl rfl) ?_
      refine VO.keep [108, 102, 0] [(108, l_m), (102, mone g1 (.cells [Value.slice A0 (d0.length) (c0), Value.int .i64 (at_), Value.bool bad].toArray 113 (0, 0))), (0, wm W)] (by kernel_rfl) ?_
      refine VO.k9 0 2 3 4 5 6 7 22 42 ?_
      refine VC.cond rfl (fun hc25 => ?_) (fun hc25 => ?_)
      · -- FFT
        refine VC.rs ?_
        refine VO.as ?_
        refine VO.as ?_
        refine VO.as ?_
        refine VO.k9 0 2 3 4 5 6 7 22 42 ?_
        refine VC.ret ?_
        refine outR ?_
        refine ⟨_, _, res_run (rs := [.tmp 2, .tmp 3, .tmp 4]) rfl (.tmp rfl (.tmp rfl (.tmp rfl .nil))), fun W_ hI => out_of (l := []) hI [] rfl rfl (mle_refl _) (fun hS_ => ?_)⟩
        dsimp only [packV]
        have he0 : ((bRead d0).1 : Ty.Den (.sl TOp)) = [] := by first | rfl | (exact fin0_bRead_ok)
        refine ⟨Value.slice none (0) (0), ?_, ?_⟩
        rotate_left
        · rw [he0]; exact (Ow.nil _ _)
        all_goals (first | rfl | (exact fin0_bRead_ok))
      · -- FFF
        refine VC.skip ?_
        refine outN ?_
        refine VC.seq ?_
        refine VC.regD _ 6 [(0, true), (1, true), (2, true), (3, true), (4, true), (5, true)] follows (by kernel_rfl) (fun _ h => h.sub [108, 102, 0]) ?_
        refine VD.y rfl rfl (.inl rfl) (.mv rfl) ?_
        refine VD.y rfl rfl (.inl rfl) (.mv rfl) ?_
        refine VD.y rfl rfl (.inl rfl) (.nilp rfl) ?_
        refine VD.y rfl rfl (.inl rfl) (.fa rfl tst113 rfl) ?_
        refine VD.y rfl rfl (.inl rfl) (.ld1 102 rfl tk3 rfl (cellsAt_one rfl rfl)) ?_
        refine VD.y rfl rfl (.inl rfl) (.as rfl) ?_
        refine VD.nil rfl ?_ rfl
        refine VO.as ?_
        refine VO.as ?_
        refine VO.k9 0 2 3 4 5 6 7 22 42 ?_
        refine outN ?_
        refine VC.ret ?_
        refine ⟨_, _, res_run (rs := [.tmp 2, .tmp 3, .tmp 4]) rfl (.tmp rfl (.tmp rfl (.tmp rfl .nil))), fun W_ hI => out_of (l := [l_m]) hI [108] rfl rfl (mle_refl _) (fun hS_ => ?_)⟩
        dsimp only [packV]
        have he0 : ((bRead d0).1 : Ty.Den (.sl TOp)) = l := by first | rfl | (exact fin0_bRead_ok)
        refine ⟨Value.slice l_A (l.length) (l_c), ?_, ?_⟩
        rotate_left
        · rw [he0]; exact (Ow.up (OwnL.ow h_l rfl) (hS_.1 _ (.head _)))
        all_goals (first | rfl | (exact fin0_bRead_ok))
theorem rbCheck_ok (W : World) {v0 : Value} {d0 : List DOp} (h0 : Rd (.sl TOp) (wm W) [v0] d0) : CallR Try.prog 91 [v0] W (mnil) (fun v m' => v = .int .i64 (batchCheck d0)) := by
  obtain ⟨A0, c0, rfl, l0, k0⟩ := h0.slice
  simp only [maxLen] at k0
  refine CallR.ofA (n := 25) Try.func91 rfl rfl rfl ?_
  refine VC.rs ?_
  refine VO.as ?_
  refine VO.k2 0 2 ?_
  refine VC.seq ?_
  refine VC.rs ?_
  refine VO.mv ?_
  refine VO.y rfl (.lenS rfl tsl41) ?_
  refine VO.y rfl (.eql rfl rfl) ?_
  refine VO.k3 0 2 7 ?_
  refine VC.cond rfl (fun hc1 => ?_) (fun hc1 => ?_)
  · -- T
    refine VC.rs ?_
    refine VO.as ?_
    refine VO.keep [0] [(0, wm W)] (by kernel_rfl) ?_
    refine VO.k3 0 2 7 ?_
    refine VC.ret ?_
    refine outR ?_
    refine ⟨_, _, res_run (rs := [.tmp 2]) rfl (.tmp rfl .nil), fun W_ hI => out_of (l := []) hI [] rfl rfl (mle_refl _) (fun hS_ => ?_)⟩
    dsimp only [packV]
    all_goals (first | rfl | (congr 1; first | exact (bcheck_empty ‹_›).symm | exact (bcheck_long ‹_›).symm | exact (bcheck_bad ‹_› ‹_› ‹d0[k]? = some _› ‹_›).symm | exact (bcheck_good ‹¬ (d0.length : Int) = 0› ‹¬ (8 : Int) < d0.length› ha ‹_›).symm))
  · -- F
    refine VC.skip ?_
    refine outN ?_
    refine VC.seq ?_
    refine VC.rs ?_
    refine VO.mv ?_
    refine VO.y rfl (.lenS rfl tsl41) ?_
    refine VO.y rfl (.gtr rfl rfl) ?_
    refine VO.keep [0] [(0, wm W)] (by kernel_rfl) ?_
    refine VO.k4 0 2 7 10 ?_
    refine VC.cond rfl (fun hc2 => ?_) (fun hc2 => ?_)
    · -- FT
      refine VC.rs ?_
      refine VO.as ?_
      refine VO.k4 0 2 7 10 ?_
      refine VC.ret ?_
      refine outR ?_
      refine ⟨_, _, res_run (rs := [.tmp 2]) rfl (.tmp rfl .nil), fun W_ hI => out_of (l := []) hI [] rfl rfl (mle_refl _) (fun hS_ => ?_)⟩
      dsimp only [packV]
      all_goals (first | rfl | (congr 1; first | exact (bcheck_empty ‹_›).symm | exact (bcheck_long ‹_›).symm | exact (bcheck_bad ‹_› ‹_› ‹d0[k]? = some _› ‹_›).symm | exact (bcheck_good ‹¬ (d0.length : Int) = 0› ‹¬ (8 : Int) < d0.length› ha ‹_›).symm))
    · -- FF
      refine VC.skip ?_
      refine outN ?_
      refine VC.seq ?_
      refine VC.rs ?_
      refine VO.as ?_
      refine VO.k5 0 2 3 7 10 ?_
      refine VC.block ?_
      refine VC.loop (G := Nat) (fun k => [(3, Value.int .i64 (((k : Nat) : Int))), (0, Value.slice A0 (d0.length) (c0)), (7, Value.bool (decide (((d0.length : Nat) : Int) = 0))), (10, Value.bool (decide (8 < ((d0.length : Nat) : Int))))]) (fun k => [(0, wm W)]) (fun k => (k ≤ d0.length) ∧ (∀ o ∈ d0.take k, opOk o)) (fun k => d0.length - k) 0 (⟨by omega, by simp⟩) ⟨⟨rfl, rfl, rfl, rfl, trivial⟩, fun _ h => h.sub [0]⟩ ?_
      rintro k ⟨hk, ha⟩
      refine VC.seq ?_
      refine VC.rs ?_
      refine VO.mv ?_
      refine VO.mv ?_
      refine VO.y rfl (.lenS rfl tsl41) ?_
      refine VO.y rfl (.lss rfl rfl) ?_
      refine VO.k5 0 3 7 10 14 ?_
      refine VC.cond rfl (fun hc3 => ?_) (fun hc3 => ?_)
      · -- FFT
        refine VC.skip ?_
        refine outN ?_
        refine VC.seq ?_
        refine VC.block ?_
        refine VC.rs ?_
        refine VO.mv ?_
        refine VO.mv ?_
        obtain ⟨x4, hx4⟩ : ∃ z_, (d0)[k]? = some z_ := ⟨_, List.getElem?_eq_getElem bd⟩
        obtain ⟨gg4, oo4, ec4, ea4, hce4, hre4⟩ := h0.elem hx4
        cases ea4
        obtain ⟨rfl, q4_1, q4_2⟩ := open_Op (x0 := x4.1) (x1 := x4.2.1) (x2 := x4.2.2) hre4
        simp only [maxLen] at q4_1
        simp only [maxLen] at q4_2
        refine VO.y rfl (.ixI k rfl rfl tsl41 rfl bd) ?_
        refine VO.y rfl (.ldA 0 rfl tk40 rfl hce4) ?_
        refine VO.callN 105 rfl fnOk101 rfl (fun W hW => refOpCheck_ok W (Rd.mono hre4 (hW.at (i := 0) rfl))) (fun v5 m5 hv5 => ?_)
        subst hv5
        refine VO.as ?_
        refine VO.keep [0] [(0, wm W)] (by kernel_rfl) ?_
        refine VO.k6 0 3 4 7 10 14 ?_
        refine VC.rs ?_
        refine VO.mv ?_
        refine VO.y rfl (.neq rfl rfl) ?_
        refine VO.k7 0 3 4 7 10 14 23 ?_
        refine VC.cond rfl (fun hc6 => ?_) (fun hc6 => ?_)
        · -- FFTT
          refine VC.rs ?_
          refine VO.mv ?_
          refine VO.as ?_
          refine VO.k8 0 2 3 4 7 10 14 23 ?_
          refine VC.ret ?_
          refine outBR ?_
          refine outR ?_
          refine outR ?_
          refine outBR ?_
          refine outR ?_
          refine ⟨_, _, res_run (rs := [.tmp 2]) rfl (.tmp rfl .nil), fun W_ hI => out_of (l := []) hI [] rfl rfl (mle_refl _) (fun hS_ => ?_)⟩
          dsimp only [packV]
          all_goals (first | rfl | (congr 1; first | exact (bcheck_empty ‹_›).symm | exact (bcheck_long ‹_›).symm | exact (bcheck_bad ‹_› ‹_› ‹d0[k]? = some _› ‹_›).symm | exact (bcheck_good ‹¬ (d0.length : Int) = 0› ‹¬ (8 : Int) < d0.length› ha ‹_›).symm))
        · -- FFTF
          refine VC.skip ?_
          refine outBN ?_
          refine outN ?_
          refine VC.reg ?_
          refine VO.mv ?_
          refine VO.y rfl (.add (c := ((k + 1 : Nat) : Int)) rfl rfl (by omega) ⟨bd, bd⟩) ?_
          refine VO.as ?_
          refine VO.k7 0 3 4 7 10 14 23 ?_
          exact outN ⟨k + 1, ⟨by omega, by exact all_next ha ‹d0[k]? = some _› (opOk_of (Decidable.not_not.1 ‹¬ ¬ _›))⟩, bd, ⟨⟨rfl, rfl, rfl, rfl, trivial⟩, fun _ h => Inv.sub h [0]⟩⟩
      · -- FFF
        refine VC.exit ?_
        refine outE ?_
        refine outE ?_
        refine outBB ?_
        refine outN ?_
        refine VC.rs ?_
        refine VO.as ?_
        refine VO.keep [0] [(0, wm W)] (by kernel_rfl) ?_
        refine VO.k6 0 2 3 7 10 14 ?_
        refine VC.ret ?_
        refine ⟨_, _, res_run (rs := [.tmp 2]) rfl (.tmp rfl .nil), fun W_ hI => out_of (l := []) hI [] rfl rfl (mle_refl _) (fun hS_ => ?_)⟩
        dsimp only [packV]
        all_goals (first | rfl | (congr 1; first | exact (bcheck_empty ‹_›).symm | exact (bcheck_long ‹_›).symm | exact (bcheck_bad ‹_› ‹_› ‹d0[k]? = some _› ‹_›).symm | exact (bcheck_good ‹¬ (d0.length : Int) = 0› ‹¬ (8 : Int) < d0.length› ha ‹_›).symm))
theorem fin0_rNext_ok {P : Prop} (h : P := by have hf := ops2_end hp (by first | exact .inl (by omega) | exact .inr (by assumption)); first | (rw [nextRef_bad (Prod.ext hf.1 hf.2) (by first | exact .inl (by assumption) | exact .inr (by assumption))] <;> rfl) | (rw [nextRef_good (Prod.ext hf.1 hf.2) (by assumption) (by omega)] <;> first | rfl | assumption)) : P := h
theorem rNext_ok (W : World) {g0 : Nat} {E0 : TypeId} {d0 : Dref01Reader} {b0_0 : Value} (hm : mle (mone g0 (.cells [(b0_0 : Value), .int .i64 d0.2.1, .bool d0.2.2].toArray E0 (0, 0))) (wm W)) (h0_0 : Rd (.sl .byte) (mout (wm W) (mone g0 (.cells [(b0_0 : Value), .int .i64 d0.2.1, .bool d0.2.2].toArray E0 (0, 0)))) [b0_0] d0.1) (h0_1 : inK .i64 d0.2.1) (e0 : rOk d0.1 d0.2) : CallR Try.prog 99 [.pointer (some ⟨g0, 0, none⟩)] W (mone g0 (.cells [(b0_0 : Value), .int .i64 d0.2.1, .bool d0.2.2].toArray E0 (0, 0))) (fun v m' => ∃ (s0 : Value), ∃ (p0 : Mem), v = s0 ∧ Seps m' [p0, mone g0 (.cells [(b0_0 : Value), .int .i64 ((nextRef d0.1 d0.2).2.1), .bool ((nextRef d0.1 d0.2).2.2)].toArray E0 (0, 0))] ∧ Ow (.sl TOp) p0 [s0] ((nextRef d0.1 d0.2).1) ∧ inK .i64 ((nextRef d0.1 d0.2).2.1)) := by
  have e0_ := e0; obtain ⟨e0a, e0b⟩ := e0_
  obtain ⟨A0_0, c0_0, rfl, l0_0, k0_0⟩ := h0_0.slice
  simp only [maxLen] at k0_0
  have h0_1' := h0_1; simp only [inK] at h0_1'
  refine CallR.ofB (n := 78) hm Try.func99 rfl rfl rfl ?_
  refine VC.rs ?_
  refine VO.as ?_
  refine VO.k2 0 2 ?_
  refine VC.rs ?_
  refine VO.as ?_
  refine VO.k3 0 2 3 ?_
  refine VC.rs ?_
  refine VO.as ?_
  refine VO.keep [0, 1] [(0, mout (wm W) (mone g0 (.cells [Value.slice A0_0 (d0.1.length) (c0_0), Value.int .i64 (d0.2.1), Value.bool d0.2.2].toArray E0 (0, 0)))), (1, mone g0 (.cells [Value.slice A0_0 (d0.1.length) (c0_0), Value.int .i64 (d0.2.1), Value.bool d0.2.2].toArray E0 (0, 0)))] (by kernel_rfl) ?_
  refine VO.k4 0 2 3 4 ?_
  refine VC.seq ?_
  refine VC.rs ?_
  refine VO.mv ?_
  refine VO.call 1 rfl fnOk52 rfl rfl (fun W hW => rSmall_ok W (d0 := d0) (hW.at (i := 1) rfl) (Rd.mono h0_0 (hW.out (i := 1) (j := 0) rfl rfl)) bdk 8 bdk (by first | assumption | exact ⟨by omega, by omega⟩ | exact ⟨by (simp; done), by (simp; done)⟩)) (fun v1 m1 hv1 => ?_)
  obtain ⟨rfl, rfl, w1_0_1⟩ := hv1
  have hfa2 := (rNum_ok (B := d0.1) (m := 8) (s := d0.2) (by first | assumption | exact ⟨by omega, by omega⟩ | exact ⟨by (simp; done), by (simp; done)⟩) (by omega)).1
  have hfa3 := (rNum_ok (B := d0.1) (m := 8) (s := d0.2) (by first | assumption | exact ⟨by omega, by omega⟩ | exact ⟨by (simp; done), by (simp; done)⟩) (by omega)).1.1
  have hfa4 := (rNum_ok (B := d0.1) (m := 8) (s := d0.2) (by first | assumption | exact ⟨by omega, by omega⟩ | exact ⟨by (simp; done), by (simp; done)⟩) (by omega)).1.2
  have hfa5 := (rNum_ok (B := d0.1) (m := 8) (s := d0.2) (by first | assumption | exact ⟨by omega, by omega⟩ | exact ⟨by (simp; done), by (simp; done)⟩) (by omega)).2
  simp only [inK] at w1_0_1
  refine VO.as ?_
  refine VO.k5 0 2 3 4 5 ?_
  refine VC.block ?_
  refine VC.inv ((106, mnil) :: _) (fun _ h => h.nilc 106) ?_
  refine VC.loop (G := Int × (List UInt8) × (List DOp) × (Option Addr) × Nat × Mem × Int × Bool) (fun g => [(3, Value.slice (g.2.2.2.1) ((g.2.2.1).length) ((g.2.2.2.2.1))), (4, str ((g.2.1))), (5, Value.int .i64 ((g.1))), (0, Value.pointer (some ⟨g0, 0, none⟩)), (2, Value.slice none (0) (0))]) (fun g => [(106, (g.2.2.2.2.2.1)), (1, mone g0 (.cells [Value.slice A0_0 (d0.1.length) (c0_0), Value.int .i64 ((g.2.2.2.2.2.2.1)), Value.bool (g.2.2.2.2.2.2.2)].toArray E0 (0, 0))), (0, mout (wm W) (mone g0 (.cells [Value.slice A0_0 (d0.1.length) (c0_0), Value.int .i64 (d0.2.1), Value.bool d0.2.2].toArray E0 (0, 0))))]) (fun g => (pOps2 d0.1 (rNum d0.1 8 d0.2).1.toNat [] (rNum d0.1 8 d0.2).2 = ((g.2.2.1) ++ (pOps2 d0.1 (g.1).toNat (g.2.1) ((g.2.2.2.2.2.2.1), (g.2.2.2.2.2.2.2))).1, (pOps2 d0.1 (g.1).toNat (g.2.1) ((g.2.2.2.2.2.2.1), (g.2.2.2.2.2.2.2))).2)) ∧ (rOk d0.1 ((g.2.2.2.2.2.2.1), (g.2.2.2.2.2.2.2))) ∧ ((g.1) ≤ 8) ∧ ((g.2.2.1).length + (g.1).toNat ≤ 8) ∧ ((g.2.1).length + 16 * (g.1).toNat ≤ 128) ∧ (OwnL TOp (g.2.2.2.2.2.1) mnil (.slice (g.2.2.2.1) (g.2.2.1).length (g.2.2.2.2.1)) (g.2.2.1))) (fun g => (g.1).toNat) ((rNum d0.1 8 d0.2).1, [], [], none, 0, mnil, (rNum d0.1 8 d0.2).2.1, (rNum d0.1 8 d0.2).2.2) (⟨by rfl, by assumption, by omega, by (simp; omega), by (simp; omega), (OwnL.nil TOp mnil mnil)⟩) ⟨⟨rfl, rfl, rfl, rfl, rfl, trivial⟩, fun _ h => h.sub [106, 1, 0]⟩ ?_
  rintro ⟨k, last, l, l_A, l_c, l_m, at_, bad⟩ ⟨hp, hok, hk, hlen, hla, h_l⟩
  replace hp : pOps2 d0.1 (rNum d0.1 8 d0.2).1.toNat [] (rNum d0.1 8 d0.2).2 = (l ++ (pOps2 d0.1 k.toNat last (at_, bad)).1, (pOps2 d0.1 k.toNat last (at_, bad)).2) := hp
  replace hok : rOk d0.1 (at_, bad) := hok
  replace hk : k ≤ 8 := hk
  replace hlen : l.length + k.toNat ≤ 8 := hlen
  replace hla : last.length + 16 * k.toNat ≤ 128 := hla
  replace h_l : OwnL TOp l_m mnil (.slice l_A l.length l_c) l := h_l
  show VC _ _ _ _ _ [(3, Value.slice l_A (l.length) (l_c)), (4, str (last)), (5, Value.int .i64 (k)), (0, Value.pointer (some ⟨g0, 0, none⟩)), (2, Value.slice none (0) (0))] [(106, l_m), (1, mone g0 (.cells [Value.slice A0_0 (d0.1.length) (c0_0), Value.int .i64 (at_), Value.bool bad].toArray E0 (0, 0))), (0, mout (wm W) (mone g0 (.cells [Value.slice A0_0 (d0.1.length) (c0_0), Value.int .i64 (d0.2.1), Value.bool d0.2.2].toArray E0 (0, 0))))]
  have l_l : l.length ≤ l_c := by obtain ⟨_, _, he, hl, _⟩ := h_l.slice; simp only [Value.slice.injEq] at he; omega
  have k_l : l_c ≤ 9223372036854775807 := by obtain ⟨_, _, he, _, hl⟩ := h_l.slice; simp only [Value.slice.injEq, maxLen] at he hl; omega
  obtain ⟨hoka, hokb⟩ := (show 0 ≤ at_ ∧ at_ ≤ d0.1.length from hok)
  refine VC.seq ?_
  refine VC.rs ?_
  refine VO.mv ?_
  refine VO.y rfl (.gtr rfl rfl) ?_
  refine VO.mv ?_
  refine VO.dec (t := 14) rfl (fun hc7 => ?_) (fun hc7 => ?_)
  · -- T
    refine VO.gy rfl ⟨_, rfl, rfl⟩ (.mv rfl) ?_
    refine VO.gy rfl ⟨_, rfl, rfl⟩ (.nilp rfl) ?_
    refine VO.gy rfl ⟨_, rfl, rfl⟩ (.fa rfl tst79 rfl) ?_
    refine VO.gy rfl ⟨_, rfl, rfl⟩ (.ld1 1 rfl tk4 rfl (cellsAt_one rfl rfl)) ?_
    refine VO.gy rfl ⟨_, rfl, rfl⟩ (.not rfl) ?_
    refine VO.y rfl (.pT rfl rfl) ?_
    refine VO.k6 0 2 3 4 5 20 ?_
    refine VC.condBN rfl (fun hc8 => ?_) (fun hc8 => ?_)
    · -- TT
      refine VC.skip ?_
      refine outN ?_
      refine VC.seq ?_
      refine VC.block ?_
      refine VC.rs ?_
      refine VO.mv ?_
      refine VO.call 1 rfl fnOk52 rfl rfl (fun W hW => rSmall_ok W (d0 := (d0.1, at_, bad)) (hW.at (i := 1) rfl) (Rd.mono h0_0 (hW.out (i := 1) (j := 0) rfl rfl)) bdk 1 bdk (by first | assumption | exact ⟨by omega, by omega⟩ | exact ⟨by (simp; done), by (simp; done)⟩)) (fun v9 m9 hv9 => ?_)
      try dsimp only at hv9
      obtain ⟨rfl, rfl, w9_0_1⟩ := hv9
      have hfa10 := (rNum_ok (B := d0.1) (m := 1) (s := (at_, bad)) (by first | assumption | exact ⟨by omega, by omega⟩ | exact ⟨by (simp; done), by (simp; done)⟩) (by omega)).1
      have hfa11 := (rNum_ok (B := d0.1) (m := 1) (s := (at_, bad)) (by first | assumption | exact ⟨by omega, by omega⟩ | exact ⟨by (simp; done), by (simp; done)⟩) (by omega)).1.1
      have hfa12 := (rNum_ok (B := d0.1) (m := 1) (s := (at_, bad)) (by first | assumption | exact ⟨by omega, by omega⟩ | exact ⟨by (simp; done), by (simp; done)⟩) (by omega)).1.2
      have hfa13 := (rNum_ok (B := d0.1) (m := 1) (s := (at_, bad)) (by first | assumption | exact ⟨by omega, by omega⟩ | exact ⟨by (simp; done), by (simp; done)⟩) (by omega)).2
      simp only [inK] at w9_0_1
      refine VO.as ?_
      refine VO.keep [1, 106, 0] [(1, mone g0 (.cells [Value.slice A0_0 (d0.1.length) (c0_0), Value.int .i64 ((rNum d0.1 1 (at_, bad)).2.1), Value.bool ((rNum d0.1 1 (at_, bad)).2.2)].toArray E0 (0, 0))), (106, l_m), (0, mout (wm W) (mone g0 (.cells [Value.slice A0_0 (d0.1.length) (c0_0), Value.int .i64 (d0.2.1), Value.bool d0.2.2].toArray E0 (0, 0))))] (by kernel_rfl) ?_
      refine VO.k7 0 2 3 4 5 6 20 ?_
      refine VC.rs ?_
      refine VO.mv ?_
      refine VO.mv ?_
      refine VO.y rfl (.lenT rfl Try.underlying9) ?_
      refine VO.call 1 rfl fnOk52 rfl rfl (fun W hW => rSmall_ok W (d0 := (d0.1, (rNum d0.1 1 (at_, bad)).2)) (hW.at (i := 1) rfl) (Rd.mono h0_0 (hW.out (i := 1) (j := 0) rfl rfl)) bdk ((last.length : Nat) : Int) bdk (by first | assumption | exact ⟨by omega, by omega⟩ | exact ⟨by (simp; done), by (simp; done)⟩)) (fun v14 m14 hv14 => ?_)
      try dsimp only at hv14
      obtain ⟨rfl, rfl, w14_0_1⟩ := hv14
      have hfa15 := (rNum_ok (B := d0.1) (m := ((last.length : Nat) : Int)) (s := ((rNum d0.1 1 (at_, bad)).2)) (by first | assumption | exact ⟨by omega, by omega⟩ | exact ⟨by (simp; done), by (simp; done)⟩) (by omega)).1
      have hfa16 := (rNum_ok (B := d0.1) (m := ((last.length : Nat) : Int)) (s := ((rNum d0.1 1 (at_, bad)).2)) (by first | assumption | exact ⟨by omega, by omega⟩ | exact ⟨by (simp; done), by (simp; done)⟩) (by omega)).1.1
      have hfa17 := (rNum_ok (B := d0.1) (m := ((last.length : Nat) : Int)) (s := ((rNum d0.1 1 (at_, bad)).2)) (by first | assumption | exact ⟨by omega, by omega⟩ | exact ⟨by (simp; done), by (simp; done)⟩) (by omega)).1.2
      have hfa18 := (rNum_ok (B := d0.1) (m := ((last.length : Nat) : Int)) (s := ((rNum d0.1 1 (at_, bad)).2)) (by first | assumption | exact ⟨by omega, by omega⟩ | exact ⟨by (simp; done), by (simp; done)⟩) (by omega)).2
      simp only [inK] at w14_0_1
      refine VO.as ?_
      refine VO.k8 0 2 3 4 5 6 7 20 ?_
      refine VC.rs ?_
      refine VO.mv ?_
      refine VO.mv ?_
      refine VO.call 1 rfl fnOk52 rfl rfl (fun W hW => rSmall_ok W (d0 := (d0.1, (rNum d0.1 ((last.length : Nat) : Int) ((rNum d0.1 1 (at_, bad)).2)).2)) (hW.at (i := 1) rfl) (Rd.mono h0_0 (hW.out (i := 1) (j := 0) rfl rfl)) bdk 16 bdk (by first | assumption | exact ⟨by omega, by omega⟩ | exact ⟨by (simp; done), by (simp; done)⟩)) (fun v19 m19 hv19 => ?_)
      try dsimp only at hv19
      obtain ⟨rfl, rfl, w19_0_1⟩ := hv19
      have hfa20 := (rNum_ok (B := d0.1) (m := 16) (s := ((rNum d0.1 ((last.length : Nat) : Int) ((rNum d0.1 1 (at_, bad)).2)).2)) (by first | assumption | exact ⟨by omega, by omega⟩ | exact ⟨by (simp; done), by (simp; done)⟩) (by omega)).1
      have hfa21 := (rNum_ok (B := d0.1) (m := 16) (s := ((rNum d0.1 ((last.length : Nat) : Int) ((rNum d0.1 1 (at_, bad)).2)).2)) (by first | assumption | exact ⟨by omega, by omega⟩ | exact ⟨by (simp; done), by (simp; done)⟩) (by omega)).1.1
      have hfa22 := (rNum_ok (B := d0.1) (m := 16) (s := ((rNum d0.1 ((last.length : Nat) : Int) ((rNum d0.1 1 (at_, bad)).2)).2)) (by first | assumption | exact ⟨by omega, by omega⟩ | exact ⟨by (simp; done), by (simp; done)⟩) (by omega)).1.2
      have hfa23 := (rNum_ok (B := d0.1) (m := 16) (s := ((rNum d0.1 ((last.length : Nat) : Int) ((rNum d0.1 1 (at_, bad)).2)).2)) (by first | assumption | exact ⟨by omega, by omega⟩ | exact ⟨by (simp; done), by (simp; done)⟩) (by omega)).2
      simp only [inK] at w19_0_1
      refine VO.call 1 rfl fnOk82 rfl rfl (fun W hW => rBytes_ok_ W (d0 := (d0.1, (rNum d0.1 16 ((rNum d0.1 ((last.length : Nat) : Int) ((rNum d0.1 1 (at_, bad)).2)).2)).2)) (hW.at (i := 1) rfl) (Rd.mono h0_0 (hW.out (i := 1) (j := 0) rfl rfl)) bdk ((rNum d0.1 16 ((rNum d0.1 ((last.length : Nat) : Int) ((rNum d0.1 1 (at_, bad)).2)).2)).1) bdk (by first | assumption | exact ⟨by omega, by omega⟩ | exact ⟨by (simp; done), by (simp; done)⟩) bd bd) (fun v24 m24 hv24 => ?_)
      try dsimp only at hv24
      obtain ⟨s24_0, p24_0, rfl, hS24, f24_0, w24_0_1⟩ := hv24
      refine VO.inv _ (fun _ h => h.parts (i := 1) rfl hS24 [125, 126]) ?_
      have hfa27 := (rBytes_ok (B := d0.1) (n := ((rNum d0.1 16 ((rNum d0.1 ((last.length : Nat) : Int) ((rNum d0.1 1 (at_, bad)).2)).2)).1)) (s := ((rNum d0.1 16 ((rNum d0.1 ((last.length : Nat) : Int) ((rNum d0.1 1 (at_, bad)).2)).2)).2)) (by first | assumption | exact ⟨by omega, by omega⟩ | exact ⟨by (simp; done), by (simp; done)⟩) (by omega)).1
      have hfa28 := (rBytes_ok (B := d0.1) (n := ((rNum d0.1 16 ((rNum d0.1 ((last.length : Nat) : Int) ((rNum d0.1 1 (at_, bad)).2)).2)).1)) (s := ((rNum d0.1 16 ((rNum d0.1 ((last.length : Nat) : Int) ((rNum d0.1 1 (at_, bad)).2)).2)).2)) (by first | assumption | exact ⟨by omega, by omega⟩ | exact ⟨by (simp; done), by (simp; done)⟩) (by omega)).1.1
      have hfa29 := (rBytes_ok (B := d0.1) (n := ((rNum d0.1 16 ((rNum d0.1 ((last.length : Nat) : Int) ((rNum d0.1 1 (at_, bad)).2)).2)).1)) (s := ((rNum d0.1 16 ((rNum d0.1 ((last.length : Nat) : Int) ((rNum d0.1 1 (at_, bad)).2)).2)).2)) (by first | assumption | exact ⟨by omega, by omega⟩ | exact ⟨by (simp; done), by (simp; done)⟩) (by omega)).1.2
      have hfa30 := (rBytes_ok (B := d0.1) (n := ((rNum d0.1 16 ((rNum d0.1 ((last.length : Nat) : Int) ((rNum d0.1 1 (at_, bad)).2)).2)).1)) (s := ((rNum d0.1 16 ((rNum d0.1 ((last.length : Nat) : Int) ((rNum d0.1 1 (at_, bad)).2)).2)).2)) (by first | assumption | exact ⟨by omega, by omega⟩ | exact ⟨by (simp; done), by (simp; done)⟩) (by omega)).2
      simp only [inK] at w24_0_1
      obtain ⟨A24_0, c24_0, eq24_0, l24_0, k24_0⟩ := f24_0.slice
      subst eq24_0
      simp only [maxLen] at k24_0
      refine VO.as ?_
      refine VO.k9 0 2 3 4 5 6 7 8 20 ?_
      refine VC.seq ?_
      refine VC.regD _ 10 [(0, true), (1, true), (2, true), (3, true), (4, true), (5, true), (6, true), (7, true), (8, true), (9, false)] follows (by kernel_rfl) (fun _ h => h.sub [125, 126, 106, 0]) ?_
      refine VD.y rfl rfl (.inl rfl) (.mv rfl) ?_
      refine VD.y rfl rfl (.inl rfl) (.eql rfl rfl) ?_
      refine VD.y rfl rfl (.inl rfl) (.mv rfl) ?_
      refine VD.y rfl rfl (.inl rfl) (.mv rfl) ?_
      refine VD.y rfl rfl (.inl rfl) (.slTHI (((rNum d0.1 ((last.length : Nat) : Int) ((rNum d0.1 1 (at_, bad)).2)).1).toNat) rfl rfl Try.underlying9 bd bd) ?_
      refine VD.y rfl rfl (.inl rfl) (.mv rfl) ?_
      refine VD.y rfl rfl (.inl rfl) (.b2s 125 rfl Try.underlying30 Try.underlying9 Try.underlying5 rfl (OwnL.rd (Ow.ownl f24_0 rfl mnil) (mle_refl _) (mle_nil _))) ?_
      refine VD.y rfl rfl (.inl rfl) (.scat rfl rfl bd) ?_
      refine VD.y rfl rfl (.inl rfl) (.bst (cs := [Value.bool (decide (((rNum d0.1 1 (at_, bad)).1) = 1)), str ((last.take (((rNum d0.1 ((last.length : Nat) : Int) ((rNum d0.1 1 (at_, bad)).2)).1).toNat)) ++ ((rBytes d0.1 ((rNum d0.1 16 ((rNum d0.1 ((last.length : Nat) : Int) ((rNum d0.1 1 (at_, bad)).2)).2)).1) ((rNum d0.1 16 ((rNum d0.1 ((last.length : Nat) : Int) ((rNum d0.1 1 (at_, bad)).2)).2)).2)).1)), str ([])]) rfl tst40 tz40 rfl) ?_
      refine VD.alloc 132 rfl rfl tz40 (fun _ _ h => h.sub [125, 126, 106, 0]) (fun g31 => ?_)
      refine VD.nil rfl ?_ rfl
      refine VO.store (k := 3) (c' := [Value.bool (decide (((rNum d0.1 1 (at_, bad)).1) = 1)), str ((last.take (((rNum d0.1 ((last.length : Nat) : Int) ((rNum d0.1 1 (at_, bad)).2)).1).toNat)) ++ ((rBytes d0.1 ((rNum d0.1 16 ((rNum d0.1 ((last.length : Nat) : Int) ((rNum d0.1 1 (at_, bad)).2)).2)).1) ((rNum d0.1 16 ((rNum d0.1 ((last.length : Nat) : Int) ((rNum d0.1 1 (at_, bad)).2)).2)).2)).1)), str ([])]) 132 rfl rfl (.inl tk40) rfl rfl rfl rfl rfl ?_
      refine VO.keep [132, 125, 126, 106, 0] [(132, mone g31 (.cells [Value.bool (decide (((rNum d0.1 1 (at_, bad)).1) = 1)), str ((last.take (((rNum d0.1 ((last.length : Nat) : Int) ((rNum d0.1 1 (at_, bad)).2)).1).toNat)) ++ ((rBytes d0.1 ((rNum d0.1 16 ((rNum d0.1 ((last.length : Nat) : Int) ((rNum d0.1 1 (at_, bad)).2)).2)).1) ((rNum d0.1 16 ((rNum d0.1 ((last.length : Nat) : Int) ((rNum d0.1 1 (at_, bad)).2)).2)).2)).1)), str ([])].toArray 40 (0, 0))), (125, p24_0), (126, mone g0 (.cells [Value.slice A0_0 (d0.1.length) (c0_0), Value.int .i64 ((rBytes d0.1 ((rNum d0.1 16 ((rNum d0.1 ((last.length : Nat) : Int) ((rNum d0.1 1 (at_, bad)).2)).2)).1) ((rNum d0.1 16 ((rNum d0.1 ((last.length : Nat) : Int) ((rNum d0.1 1 (at_, bad)).2)).2)).2)).2.1), Value.bool ((rBytes d0.1 ((rNum d0.1 16 ((rNum d0.1 ((last.length : Nat) : Int) ((rNum d0.1 1 (at_, bad)).2)).2)).1) ((rNum d0.1 16 ((rNum d0.1 ((last.length : Nat) : Int) ((rNum d0.1 1 (at_, bad)).2)).2)).2)).2.2)].toArray E0 (0, 0))), (106, l_m), (0, mout (wm W) (mone g0 (.cells [Value.slice A0_0 (d0.1.length) (c0_0), Value.int .i64 (d0.2.1), Value.bool d0.2.2].toArray E0 (0, 0))))] (by kernel_rfl) ?_
      refine VO.k10 0 2 3 4 5 6 7 8 9 20 ?_
      refine outN ?_
      refine VC.seq ?_
      refine VC.rs ?_
      refine VO.mv ?_
      refine VO.y rfl (.eql rfl rfl) ?_
      refine VO.k11 0 2 3 4 5 6 7 8 9 20 43 ?_
      refine VC.cond rfl (fun hc33 => ?_) (fun hc33 => ?_)
      · -- TTT
        refine VC.reg ?_
        refine VO.mv ?_
        refine VO.mv ?_
        refine VO.call 126 rfl fnOk52 rfl rfl (fun W hW => rSmall_ok W (d0 := (d0.1, (rBytes d0.1 ((rNum d0.1 16 ((rNum d0.1 ((last.length : Nat) : Int) ((rNum d0.1 1 (at_, bad)).2)).2)).1) ((rNum d0.1 16 ((rNum d0.1 ((last.length : Nat) : Int) ((rNum d0.1 1 (at_, bad)).2)).2)).2)).2)) (hW.at (i := 126) rfl) (Rd.mono h0_0 (hW.out (i := 126) (j := 0) rfl rfl)) bdk 32 bdk (by first | assumption | exact ⟨by omega, by omega⟩ | exact ⟨by (simp; done), by (simp; done)⟩)) (fun v34 m34 hv34 => ?_)
        try dsimp only at hv34
        obtain ⟨rfl, rfl, w34_0_1⟩ := hv34
        have hfa35 := (rNum_ok (B := d0.1) (m := 32) (s := ((rBytes d0.1 ((rNum d0.1 16 ((rNum d0.1 ((last.length : Nat) : Int) ((rNum d0.1 1 (at_, bad)).2)).2)).1) ((rNum d0.1 16 ((rNum d0.1 ((last.length : Nat) : Int) ((rNum d0.1 1 (at_, bad)).2)).2)).2)).2)) (by first | assumption | exact ⟨by omega, by omega⟩ | exact ⟨by (simp; done), by (simp; done)⟩) (by omega)).1
        have hfa36 := (rNum_ok (B := d0.1) (m := 32) (s := ((rBytes d0.1 ((rNum d0.1 16 ((rNum d0.1 ((last.length : Nat) : Int) ((rNum d0.1 1 (at_, bad)).2)).2)).1) ((rNum d0.1 16 ((rNum d0.1 ((last.length : Nat) : Int) ((rNum d0.1 1 (at_, bad)).2)).2)).2)).2)) (by first | assumption | exact ⟨by omega, by omega⟩ | exact ⟨by (simp; done), by (simp; done)⟩) (by omega)).1.1
        have hfa37 := (rNum_ok (B := d0.1) (m := 32) (s := ((rBytes d0.1 ((rNum d0.1 16 ((rNum d0.1 ((last.length : Nat) : Int) ((rNum d0.1 1 (at_, bad)).2)).2)).1) ((rNum d0.1 16 ((rNum d0.1 ((last.length : Nat) : Int) ((rNum d0.1 1 (at_, bad)).2)).2)).2)).2)) (by first | assumption | exact ⟨by omega, by omega⟩ | exact ⟨by (simp; done), by (simp; done)⟩) (by omega)).1.2
        have hfa38 := (rNum_ok (B := d0.1) (m := 32) (s := ((rBytes d0.1 ((rNum d0.1 16 ((rNum d0.1 ((last.length : Nat) : Int) ((rNum d0.1 1 (at_, bad)).2)).2)).1) ((rNum d0.1 16 ((rNum d0.1 ((last.length : Nat) : Int) ((rNum d0.1 1 (at_, bad)).2)).2)).2)).2)) (by first | assumption | exact ⟨by omega, by omega⟩ | exact ⟨by (simp; done), by (simp; done)⟩) (by omega)).2
        simp only [inK] at w34_0_1
        refine VO.call 126 rfl fnOk82 rfl rfl (fun W hW => rBytes_ok_ W (d0 := (d0.1, (rNum d0.1 32 ((rBytes d0.1 ((rNum d0.1 16 ((rNum d0.1 ((last.length : Nat) : Int) ((rNum d0.1 1 (at_, bad)).2)).2)).1) ((rNum d0.1 16 ((rNum d0.1 ((last.length : Nat) : Int) ((rNum d0.1 1 (at_, bad)).2)).2)).2)).2)).2)) (hW.at (i := 126) rfl) (Rd.mono h0_0 (hW.out (i := 126) (j := 0) rfl rfl)) bdk ((rNum d0.1 32 ((rBytes d0.1 ((rNum d0.1 16 ((rNum d0.1 ((last.length : Nat) : Int) ((rNum d0.1 1 (at_, bad)).2)).2)).1) ((rNum d0.1 16 ((rNum d0.1 ((last.length : Nat) : Int) ((rNum d0.1 1 (at_, bad)).2)).2)).2)).2)).1) bdk (by first | assumption | exact ⟨by omega, by omega⟩ | exact ⟨by (simp; done), by (simp; done)⟩) bd bd) (fun v39 m39 hv39 => ?_)
        try dsimp only at hv39
        obtain ⟨s39_0, p39_0, rfl, hS39, f39_0, w39_0_1⟩ := hv39
        refine VO.inv _ (fun _ h => h.parts (i := 126) rfl hS39 [140, 141]) ?_
        have hfa42 := (rBytes_ok (B := d0.1) (n := ((rNum d0.1 32 ((rBytes d0.1 ((rNum d0.1 16 ((rNum d0.1 ((last.length : Nat) : Int) ((rNum d0.1 1 (at_, bad)).2)).2)).1) ((rNum d0.1 16 ((rNum d0.1 ((last.length : Nat) : Int) ((rNum d0.1 1 (at_, bad)).2)).2)).2)).2)).1)) (s := ((rNum d0.1 32 ((rBytes d0.1 ((rNum d0.1 16 ((rNum d0.1 ((last.length : Nat) : Int) ((rNum d0.1 1 (at_, bad)).2)).2)).1) ((rNum d0.1 16 ((rNum d0.1 ((last.length : Nat) : Int) ((rNum d0.1 1 (at_, bad)).2)).2)).2)).2)).2)) (by first | assumption | exact ⟨by omega, by omega⟩ | exact ⟨by (simp; done), by (simp; done)⟩) (by omega)).1
        have hfa43 := (rBytes_ok (B := d0.1) (n := ((rNum d0.1 32 ((rBytes d0.1 ((rNum d0.1 16 ((rNum d0.1 ((last.length : Nat) : Int) ((rNum d0.1 1 (at_, bad)).2)).2)).1) ((rNum d0.1 16 ((rNum d0.1 ((last.length : Nat) : Int) ((rNum d0.1 1 (at_, bad)).2)).2)).2)).2)).1)) (s := ((rNum d0.1 32 ((rBytes d0.1 ((rNum d0.1 16 ((rNum d0.1 ((last.length : Nat) : Int) ((rNum d0.1 1 (at_, bad)).2)).2)).1) ((rNum d0.1 16 ((rNum d0.1 ((last.length : Nat) : Int) ((rNum d0.1 1 (at_, bad)).2)).2)).2)).2)).2)) (by first | assumption | exact ⟨by omega, by omega⟩ | exact ⟨by (simp; done), by (simp; done)⟩) (by omega)).1.1
        have hfa44 := (rBytes_ok (B := d0.1) (n := ((rNum d0.1 32 ((rBytes d0.1 ((rNum d0.1 16 ((rNum d0.1 ((last.length : Nat) : Int) ((rNum d0.1 1 (at_, bad)).2)).2)).1) ((rNum d0.1 16 ((rNum d0.1 ((last.length : Nat) : Int) ((rNum d0.1 1 (at_, bad)).2)).2)).2)).2)).1)) (s := ((rNum d0.1 32 ((rBytes d0.1 ((rNum d0.1 16 ((rNum d0.1 ((last.length : Nat) : Int) ((rNum d0.1 1 (at_, bad)).2)).2)).1) ((rNum d0.1 16 ((rNum d0.1 ((last.length : Nat) : Int) ((rNum d0.1 1 (at_, bad)).2)).2)).2)).2)).2)) (by first | assumption | exact ⟨by omega, by omega⟩ | exact ⟨by (simp; done), by (simp; done)⟩) (by omega)).1.2
        have hfa45 := (rBytes_ok (B := d0.1) (n := ((rNum d0.1 32 ((rBytes d0.1 ((rNum d0.1 16 ((rNum d0.1 ((last.length : Nat) : Int) ((rNum d0.1 1 (at_, bad)).2)).2)).1) ((rNum d0.1 16 ((rNum d0.1 ((last.length : Nat) : Int) ((rNum d0.1 1 (at_, bad)).2)).2)).2)).2)).1)) (s := ((rNum d0.1 32 ((rBytes d0.1 ((rNum d0.1 16 ((rNum d0.1 ((last.length : Nat) : Int) ((rNum d0.1 1 (at_, bad)).2)).2)).1) ((rNum d0.1 16 ((rNum d0.1 ((last.length : Nat) : Int) ((rNum d0.1 1 (at_, bad)).2)).2)).2)).2)).2)) (by first | assumption | exact ⟨by omega, by omega⟩ | exact ⟨by (simp; done), by (simp; done)⟩) (by omega)).2
        simp only [inK] at w39_0_1
        obtain ⟨A39_0, c39_0, eq39_0, l39_0, k39_0⟩ := f39_0.slice
        subst eq39_0
        simp only [maxLen] at k39_0
        refine VO.y rfl (.b2s 140 rfl Try.underlying30 Try.underlying9 Try.underlying5 rfl (OwnL.rd (Ow.ownl f39_0 rfl mnil) (mle_refl _) (mle_nil _))) ?_
        refine VO.y rfl (.fa rfl tst40 rfl) ?_
        refine VO.store (k := 1) (c' := [Value.bool (decide (((rNum d0.1 1 (at_, bad)).1) = 1)), str ((last.take (((rNum d0.1 ((last.length : Nat) : Int) ((rNum d0.1 1 (at_, bad)).2)).1).toNat)) ++ ((rBytes d0.1 ((rNum d0.1 16 ((rNum d0.1 ((last.length : Nat) : Int) ((rNum d0.1 1 (at_, bad)).2)).2)).1) ((rNum d0.1 16 ((rNum d0.1 ((last.length : Nat) : Int) ((rNum d0.1 1 (at_, bad)).2)).2)).2)).1)), str ((rBytes d0.1 ((rNum d0.1 32 ((rBytes d0.1 ((rNum d0.1 16 ((rNum d0.1 ((last.length : Nat) : Int) ((rNum d0.1 1 (at_, bad)).2)).2)).1) ((rNum d0.1 16 ((rNum d0.1 ((last.length : Nat) : Int) ((rNum d0.1 1 (at_, bad)).2)).2)).2)).2)).1) ((rNum d0.1 32 ((rBytes d0.1 ((rNum d0.1 16 ((rNum d0.1 ((last.length : Nat) : Int) ((rNum d0.1 1 (at_, bad)).2)).2)).1) ((rNum d0.1 16 ((rNum d0.1 ((last.length : Nat) : Int) ((rNum d0.1 1 (at_, bad)).2)).2)).2)).2)).2)).1)]) 132 rfl rfl (.inr ⟨tk9, rfl⟩) rfl rfl rfl rfl rfl ?_
        refine VO.k11 0 2 3 4 5 6 7 8 9 20 43 ?_
        refine outN ?_
        refine VC.seq ?_
        refine VC.rs ?_
        refine VO.mv ?_
        refine VO.y rfl (.fa rfl tst40 rfl) ?_
        refine VO.y rfl (.ld1 132 rfl tk9 rfl (cellsAt_one rfl rfl)) ?_
        refine VO.callN 146 rfl fnOk92 rfl (fun W hW => rShared_ok W last bdm ((last.take (((rNum d0.1 ((last.length : Nat) : Int) ((rNum d0.1 1 (at_, bad)).2)).1).toNat)) ++ ((rBytes d0.1 ((rNum d0.1 16 ((rNum d0.1 ((last.length : Nat) : Int) ((rNum d0.1 1 (at_, bad)).2)).2)).1) ((rNum d0.1 16 ((rNum d0.1 ((last.length : Nat) : Int) ((rNum d0.1 1 (at_, bad)).2)).2)).2)).1)) bdm) (fun v46 m46 hv46 => ?_)
        subst hv46
        have hfa47 := shared_le last ((last.take (((rNum d0.1 ((last.length : Nat) : Int) ((rNum d0.1 1 (at_, bad)).2)).1).toNat)) ++ ((rBytes d0.1 ((rNum d0.1 16 ((rNum d0.1 ((last.length : Nat) : Int) ((rNum d0.1 1 (at_, bad)).2)).2)).1) ((rNum d0.1 16 ((rNum d0.1 ((last.length : Nat) : Int) ((rNum d0.1 1 (at_, bad)).2)).2)).2)).1))
        refine VO.mv ?_
        refine VO.y rfl (.neq rfl rfl) ?_
        refine VO.keep [141, 132, 125, 106, 0] [(141, mone g0 (.cells [Value.slice A0_0 (d0.1.length) (c0_0), Value.int .i64 ((rBytes d0.1 ((rNum d0.1 32 ((rBytes d0.1 ((rNum d0.1 16 ((rNum d0.1 ((last.length : Nat) : Int) ((rNum d0.1 1 (at_, bad)).2)).2)).1) ((rNum d0.1 16 ((rNum d0.1 ((last.length : Nat) : Int) ((rNum d0.1 1 (at_, bad)).2)).2)).2)).2)).1) ((rNum d0.1 32 ((rBytes d0.1 ((rNum d0.1 16 ((rNum d0.1 ((last.length : Nat) : Int) ((rNum d0.1 1 (at_, bad)).2)).2)).1) ((rNum d0.1 16 ((rNum d0.1 ((last.length : Nat) : Int) ((rNum d0.1 1 (at_, bad)).2)).2)).2)).2)).2)).2.1), Value.bool ((rBytes d0.1 ((rNum d0.1 32 ((rBytes d0.1 ((rNum d0.1 16 ((rNum d0.1 ((last.length : Nat) : Int) ((rNum d0.1 1 (at_, bad)).2)).2)).1) ((rNum d0.1 16 ((rNum d0.1 ((last.length : Nat) : Int) ((rNum d0.1 1 (at_, bad)).2)).2)).2)).2)).1) ((rNum d0.1 32 ((rBytes d0.1 ((rNum d0.1 16 ((rNum d0.1 ((last.length : Nat) : Int) ((rNum d0.1 1 (at_, bad)).2)).2)).1) ((rNum d0.1 16 ((rNum d0.1 ((last.length : Nat) : Int) ((rNum d0.1 1 (at_, bad)).2)).2)).2)).2)).2)).2.2)].toArray E0 (0, 0))), (132, mone g31 (.cells [Value.bool (decide (((rNum d0.1 1 (at_, bad)).1) = 1)), str ((last.take (((rNum d0.1 ((last.length : Nat) : Int) ((rNum d0.1 1 (at_, bad)).2)).1).toNat)) ++ ((rBytes d0.1 ((rNum d0.1 16 ((rNum d0.1 ((last.length : Nat) : Int) ((rNum d0.1 1 (at_, bad)).2)).2)).1) ((rNum d0.1 16 ((rNum d0.1 ((last.length : Nat) : Int) ((rNum d0.1 1 (at_, bad)).2)).2)).2)).1)), str ((rBytes d0.1 ((rNum d0.1 32 ((rBytes d0.1 ((rNum d0.1 16 ((rNum d0.1 ((last.length : Nat) : Int) ((rNum d0.1 1 (at_, bad)).2)).2)).1) ((rNum d0.1 16 ((rNum d0.1 ((last.length : Nat) : Int) ((rNum d0.1 1 (at_, bad)).2)).2)).2)).2)).1) ((rNum d0.1 32 ((rBytes d0.1 ((rNum d0.1 16 ((rNum d0.1 ((last.length : Nat) : Int) ((rNum d0.1 1 (at_, bad)).2)).2)).1) ((rNum d0.1 16 ((rNum d0.1 ((last.length : Nat) : Int) ((rNum d0.1 1 (at_, bad)).2)).2)).2)).2)).2)).1)].toArray 40 (0, 0))), (125, p24_0), (106, l_m), (0, mout (wm W) (mone g0 (.cells [Value.slice A0_0 (d0.1.length) (c0_0), Value.int .i64 (d0.2.1), Value.bool d0.2.2].toArray E0 (0, 0))))] (by kernel_rfl) ?_
        refine VO.k12 0 2 3 4 5 6 7 8 9 20 43 55 ?_
        refine VC.cond rfl (fun hc48 => ?_) (fun hc48 => ?_)
        · -- TTTT
          refine VC.reg ?_
          refine VO.mv ?_
          refine VO.y rfl (.nilp rfl) ?_
          refine VO.y rfl (.fa rfl tst79 rfl) ?_
          refine VO.store (k := 1) (c' := [Value.slice A0_0 (d0.1.length) (c0_0), Value.int .i64 ((rBytes d0.1 ((rNum d0.1 32 ((rBytes d0.1 ((rNum d0.1 16 ((rNum d0.1 ((last.length : Nat) : Int) ((rNum d0.1 1 (at_, bad)).2)).2)).1) ((rNum d0.1 16 ((rNum d0.1 ((last.length : Nat) : Int) ((rNum d0.1 1 (at_, bad)).2)).2)).2)).2)).1) ((rNum d0.1 32 ((rBytes d0.1 ((rNum d0.1 16 ((rNum d0.1 ((last.length : Nat) : Int) ((rNum d0.1 1 (at_, bad)).2)).2)).1) ((rNum d0.1 16 ((rNum d0.1 ((last.length : Nat) : Int) ((rNum d0.1 1 (at_, bad)).2)).2)).2)).2)).2)).2.1), Value.bool true]) 141 rfl rfl (.inr ⟨tk4, rfl⟩) rfl rfl rfl rfl rfl ?_
          refine VO.k12 0 2 3 4 5 6 7 8 9 20 43 55 ?_
          refine outN ?_
          refine VC.rs ?_
          refine VO.mv ?_
          refine VO.y rfl (.ldA 132 rfl tk40 rfl (cellsAt_one rfl rfl)) ?_
          refine VO.bsl (cs := [Value.bool (decide (((rNum d0.1 1 (at_, bad)).1) = 1)), str ((last.take (((rNum d0.1 ((last.length : Nat) : Int) ((rNum d0.1 1 (at_, bad)).2)).1).toNat)) ++ ((rBytes d0.1 ((rNum d0.1 16 ((rNum d0.1 ((last.length : Nat) : Int) ((rNum d0.1 1 (at_, bad)).2)).2)).1) ((rNum d0.1 16 ((rNum d0.1 ((last.length : Nat) : Int) ((rNum d0.1 1 (at_, bad)).2)).2)).2)).1)), str ((rBytes d0.1 ((rNum d0.1 32 ((rBytes d0.1 ((rNum d0.1 16 ((rNum d0.1 ((last.length : Nat) : Int) ((rNum d0.1 1 (at_, bad)).2)).2)).1) ((rNum d0.1 16 ((rNum d0.1 ((last.length : Nat) : Int) ((rNum d0.1 1 (at_, bad)).2)).2)).2)).2)).1) ((rNum d0.1 32 ((rBytes d0.1 ((rNum d0.1 16 ((rNum d0.1 ((last.length : Nat) : Int) ((rNum d0.1 1 (at_, bad)).2)).2)).1) ((rNum d0.1 16 ((rNum d0.1 ((last.length : Nat) : Int) ((rNum d0.1 1 (at_, bad)).2)).2)).2)).2)).2)).1)]) 150 rfl rfl tsl41 tz40 rfl rfl (fun g49 => ?_)
          obtain ⟨mo51, cs51, hM51, hA51, hC51⟩ := h_l
          refine VO.app 106 rfl rfl rfl tsl41 tz40 rfl rfl hM51 hA51 (.row 150 _ _ _ 1 1 _ _ Try.underlying41 rfl (cellsAt_one rfl rfl)) (by simp [Value.oneCell']) bdm bd (by decide) (fun v51 m51 hN51 => ?_)
          have ho51 : OwnL TOp m51 mnil v51 (l ++ [(decide (((rNum d0.1 1 (at_, bad)).1) = 1), (last.take (((rNum d0.1 ((last.length : Nat) : Int) ((rNum d0.1 1 (at_, bad)).2)).1).toNat)) ++ ((rBytes d0.1 ((rNum d0.1 16 ((rNum d0.1 ((last.length : Nat) : Int) ((rNum d0.1 1 (at_, bad)).2)).2)).1) ((rNum d0.1 16 ((rNum d0.1 ((last.length : Nat) : Int) ((rNum d0.1 1 (at_, bad)).2)).2)).2)).1), (rBytes d0.1 ((rNum d0.1 32 ((rBytes d0.1 ((rNum d0.1 16 ((rNum d0.1 ((last.length : Nat) : Int) ((rNum d0.1 1 (at_, bad)).2)).2)).1) ((rNum d0.1 16 ((rNum d0.1 ((last.length : Nat) : Int) ((rNum d0.1 1 (at_, bad)).2)).2)).2)).2)).1) ((rNum d0.1 32 ((rBytes d0.1 ((rNum d0.1 16 ((rNum d0.1 ((last.length : Nat) : Int) ((rNum d0.1 1 (at_, bad)).2)).2)).1) ((rNum d0.1 16 ((rNum d0.1 ((last.length : Nat) : Int) ((rNum d0.1 1 (at_, bad)).2)).2)).2)).2)).2)).1)]) := OwnL.one hC51 hN51 (mk_Op (m := _) (decide (((rNum d0.1 1 (at_, bad)).1) = 1)) ((last.take (((rNum d0.1 ((last.length : Nat) : Int) ((rNum d0.1 1 (at_, bad)).2)).1).toNat)) ++ ((rBytes d0.1 ((rNum d0.1 16 ((rNum d0.1 ((last.length : Nat) : Int) ((rNum d0.1 1 (at_, bad)).2)).2)).1) ((rNum d0.1 16 ((rNum d0.1 ((last.length : Nat) : Int) ((rNum d0.1 1 (at_, bad)).2)).2)).2)).1)) ((rBytes d0.1 ((rNum d0.1 32 ((rBytes d0.1 ((rNum d0.1 16 ((rNum d0.1 ((last.length : Nat) : Int) ((rNum d0.1 1 (at_, bad)).2)).2)).1) ((rNum d0.1 16 ((rNum d0.1 ((last.length : Nat) : Int) ((rNum d0.1 1 (at_, bad)).2)).2)).2)).2)).1) ((rNum d0.1 32 ((rBytes d0.1 ((rNum d0.1 16 ((rNum d0.1 ((last.length : Nat) : Int) ((rNum d0.1 1 (at_, bad)).2)).2)).1) ((rNum d0.1 16 ((rNum d0.1 ((last.length : Nat) : Int) ((rNum d0.1 1 (at_, bad)).2)).2)).2)).2)).2)).1) bdm bdm)
          obtain ⟨A51, c51, rfl, l51, k51⟩ := ho51.slice
          simp only [maxLen] at k51
          have hop : rOp2 d0.1 last (at_, bad) = ((decide (((rNum d0.1 1 (at_, bad)).1) = 1), (last.take (((rNum d0.1 ((last.length : Nat) : Int) ((rNum d0.1 1 (at_, bad)).2)).1).toNat)) ++ ((rBytes d0.1 ((rNum d0.1 16 ((rNum d0.1 ((last.length : Nat) : Int) ((rNum d0.1 1 (at_, bad)).2)).2)).1) ((rNum d0.1 16 ((rNum d0.1 ((last.length : Nat) : Int) ((rNum d0.1 1 (at_, bad)).2)).2)).2)).1), (rBytes d0.1 ((rNum d0.1 32 ((rBytes d0.1 ((rNum d0.1 16 ((rNum d0.1 ((last.length : Nat) : Int) ((rNum d0.1 1 (at_, bad)).2)).2)).1) ((rNum d0.1 16 ((rNum d0.1 ((last.length : Nat) : Int) ((rNum d0.1 1 (at_, bad)).2)).2)).2)).2)).1) ((rNum d0.1 32 ((rBytes d0.1 ((rNum d0.1 16 ((rNum d0.1 ((last.length : Nat) : Int) ((rNum d0.1 1 (at_, bad)).2)).2)).1) ((rNum d0.1 16 ((rNum d0.1 ((last.length : Nat) : Int) ((rNum d0.1 1 (at_, bad)).2)).2)).2)).2)).2)).1), ((rBytes d0.1 ((rNum d0.1 32 ((rBytes d0.1 ((rNum d0.1 16 ((rNum d0.1 ((last.length : Nat) : Int) ((rNum d0.1 1 (at_, bad)).2)).2)).1) ((rNum d0.1 16 ((rNum d0.1 ((last.length : Nat) : Int) ((rNum d0.1 1 (at_, bad)).2)).2)).2)).2)).1) ((rNum d0.1 32 ((rBytes d0.1 ((rNum d0.1 16 ((rNum d0.1 ((last.length : Nat) : Int) ((rNum d0.1 1 (at_, bad)).2)).2)).1) ((rNum d0.1 16 ((rNum d0.1 ((last.length : Nat) : Int) ((rNum d0.1 1 (at_, bad)).2)).2)).2)).2)).2)).2.1, true)) := by unfold rOp2 rText; dsimp only; (first | simp only [if_pos ‹(rNum d0.1 1 (at_, bad)).1 = 1›] | simp only [if_neg ‹¬ (rNum d0.1 1 (at_, bad)).1 = 1›]); (first | rw [if_pos (by assumption)] | rw [if_neg (by assumption)])
          have hs9 := ops2_step hp (by omega) (by assumption)
          have ho9 := (rOp2_ok (last := last) hok (by omega)).1
          have hl9 := (rOp2_ok (last := last) hok (by omega)).2.1
          rw [hop] at hs9 ho9 hl9
          dsimp only at hs9 ho9 hl9
          refine VO.as ?_
          refine VO.k12 0 2 3 4 5 6 7 8 9 20 43 55 ?_
          refine VC.reg ?_
          refine VO.y rfl (.fa rfl tst40 rfl) ?_
          refine VO.y rfl (.ld1 132 rfl tk9 rfl (cellsAt_one rfl rfl)) ?_
          refine VO.as ?_
          refine VO.keep [141, 132, 125, 106, 0] [(141, mone g0 (.cells [Value.slice A0_0 (d0.1.length) (c0_0), Value.int .i64 ((rBytes d0.1 ((rNum d0.1 32 ((rBytes d0.1 ((rNum d0.1 16 ((rNum d0.1 ((last.length : Nat) : Int) ((rNum d0.1 1 (at_, bad)).2)).2)).1) ((rNum d0.1 16 ((rNum d0.1 ((last.length : Nat) : Int) ((rNum d0.1 1 (at_, bad)).2)).2)).2)).2)).1) ((rNum d0.1 32 ((rBytes d0.1 ((rNum d0.1 16 ((rNum d0.1 ((last.length : Nat) : Int) ((rNum d0.1 1 (at_, bad)).2)).2)).1) ((rNum d0.1 16 ((rNum d0.1 ((last.length : Nat) : Int) ((rNum d0.1 1 (at_, bad)).2)).2)).2)).2)).2)).2.1), Value.bool true].toArray E0 (0, 0))), (132, mone g31 (.cells [Value.bool (decide (((rNum d0.1 1 (at_, bad)).1) = 1)), str ((last.take (((rNum d0.1 ((last.length : Nat) : Int) ((rNum d0.1 1 (at_, bad)).2)).1).toNat)) ++ ((rBytes d0.1 ((rNum d0.1 16 ((rNum d0.1 ((last.length : Nat) : Int) ((rNum d0.1 1 (at_, bad)).2)).2)).1) ((rNum d0.1 16 ((rNum d0.1 ((last.length : Nat) : Int) ((rNum d0.1 1 (at_, bad)).2)).2)).2)).1)), str ((rBytes d0.1 ((rNum d0.1 32 ((rBytes d0.1 ((rNum d0.1 16 ((rNum d0.1 ((last.length : Nat) : Int) ((rNum d0.1 1 (at_, bad)).2)).2)).1) ((rNum d0.1 16 ((rNum d0.1 ((last.length : Nat) : Int) ((rNum d0.1 1 (at_, bad)).2)).2)).2)).2)).1) ((rNum d0.1 32 ((rBytes d0.1 ((rNum d0.1 16 ((rNum d0.1 ((last.length : Nat) : Int) ((rNum d0.1 1 (at_, bad)).2)).2)).1) ((rNum d0.1 16 ((rNum d0.1 ((last.length : Nat) : Int) ((rNum d0.1 1 (at_, bad)).2)).2)).2)).2)).2)).1)].toArray 40 (0, 0))), (125, p24_0), (106, m51), (0, mout (wm W) (mone g0 (.cells [Value.slice A0_0 (d0.1.length) (c0_0), Value.int .i64 (d0.2.1), Value.bool d0.2.2].toArray E0 (0, 0))))] (by kernel_rfl) ?_
          refine VO.k12 0 2 3 4 5 6 7 8 9 20 43 55 ?_
          refine outBN ?_
          refine outN ?_
          refine VC.reg ?_
          refine VO.mv ?_
          refine VO.y rfl (.sub rfl rfl rfl ⟨bd, bd⟩) ?_
          refine VO.as ?_
          refine VO.k12 0 2 3 4 5 6 7 8 9 20 43 55 ?_
          exact outN ⟨⟨k - 1, (last.take (((rNum d0.1 ((last.length : Nat) : Int) ((rNum d0.1 1 (at_, bad)).2)).1).toNat)) ++ ((rBytes d0.1 ((rNum d0.1 16 ((rNum d0.1 ((last.length : Nat) : Int) ((rNum d0.1 1 (at_, bad)).2)).2)).1) ((rNum d0.1 16 ((rNum d0.1 ((last.length : Nat) : Int) ((rNum d0.1 1 (at_, bad)).2)).2)).2)).1), l ++ [(decide (((rNum d0.1 1 (at_, bad)).1) = 1), (last.take (((rNum d0.1 ((last.length : Nat) : Int) ((rNum d0.1 1 (at_, bad)).2)).1).toNat)) ++ ((rBytes d0.1 ((rNum d0.1 16 ((rNum d0.1 ((last.length : Nat) : Int) ((rNum d0.1 1 (at_, bad)).2)).2)).1) ((rNum d0.1 16 ((rNum d0.1 ((last.length : Nat) : Int) ((rNum d0.1 1 (at_, bad)).2)).2)).2)).1), (rBytes d0.1 ((rNum d0.1 32 ((rBytes d0.1 ((rNum d0.1 16 ((rNum d0.1 ((last.length : Nat) : Int) ((rNum d0.1 1 (at_, bad)).2)).2)).1) ((rNum d0.1 16 ((rNum d0.1 ((last.length : Nat) : Int) ((rNum d0.1 1 (at_, bad)).2)).2)).2)).2)).1) ((rNum d0.1 32 ((rBytes d0.1 ((rNum d0.1 16 ((rNum d0.1 ((last.length : Nat) : Int) ((rNum d0.1 1 (at_, bad)).2)).2)).1) ((rNum d0.1 16 ((rNum d0.1 ((last.length : Nat) : Int) ((rNum d0.1 1 (at_, bad)).2)).2)).2)).2)).2)).1)], A51, c51, m51, (rBytes d0.1 ((rNum d0.1 32 ((rBytes d0.1 ((rNum d0.1 16 ((rNum d0.1 ((last.length : Nat) : Int) ((rNum d0.1 1 (at_, bad)).2)).2)).1) ((rNum d0.1 16 ((rNum d0.1 ((last.length : Nat) : Int) ((rNum d0.1 1 (at_, bad)).2)).2)).2)).2)).1) ((rNum d0.1 32 ((rBytes d0.1 ((rNum d0.1 16 ((rNum d0.1 ((last.length : Nat) : Int) ((rNum d0.1 1 (at_, bad)).2)).2)).1) ((rNum d0.1 16 ((rNum d0.1 ((last.length : Nat) : Int) ((rNum d0.1 1 (at_, bad)).2)).2)).2)).2)).2)).2.1, true⟩, ⟨by exact hs9, by exact ho9, by omega, by (simp only [List.length_append, List.length_cons, List.length_nil]; omega), by dsimp only; omega, ho51⟩, bd, ⟨⟨rfl, rfl, rfl, rfl, rfl, trivial⟩, fun _ h => Inv.sub (Inv.num h 141 1 rfl) [106, 1, 0]⟩⟩
        · -- TTTF
          refine VC.skip ?_
          refine outN ?_
          refine VC.rs ?_
          refine VO.mv ?_
          refine VO.y rfl (.ldA 132 rfl tk40 rfl (cellsAt_one rfl rfl)) ?_
          refine VO.bsl (cs := [Value.bool (decide (((rNum d0.1 1 (at_, bad)).1) = 1)), str ((last.take (((rNum d0.1 ((last.length : Nat) : Int) ((rNum d0.1 1 (at_, bad)).2)).1).toNat)) ++ ((rBytes d0.1 ((rNum d0.1 16 ((rNum d0.1 ((last.length : Nat) : Int) ((rNum d0.1 1 (at_, bad)).2)).2)).1) ((rNum d0.1 16 ((rNum d0.1 ((last.length : Nat) : Int) ((rNum d0.1 1 (at_, bad)).2)).2)).2)).1)), str ((rBytes d0.1 ((rNum d0.1 32 ((rBytes d0.1 ((rNum d0.1 16 ((rNum d0.1 ((last.length : Nat) : Int) ((rNum d0.1 1 (at_, bad)).2)).2)).1) ((rNum d0.1 16 ((rNum d0.1 ((last.length : Nat) : Int) ((rNum d0.1 1 (at_, bad)).2)).2)).2)).2)).1) ((rNum d0.1 32 ((rBytes d0.1 ((rNum d0.1 16 ((rNum d0.1 ((last.length : Nat) : Int) ((rNum d0.1 1 (at_, bad)).2)).2)).1) ((rNum d0.1 16 ((rNum d0.1 ((last.length : Nat) : Int) ((rNum d0.1 1 (at_, bad)).2)).2)).2)).2)).2)).1)]) 153 rfl rfl tsl41 tz40 rfl rfl (fun g52 => ?_)
          obtain ⟨mo54, cs54, hM54, hA54, hC54⟩ := h_l
          refine VO.app 106 rfl rfl rfl tsl41 tz40 rfl rfl hM54 hA54 (.row 153 _ _ _ 1 1 _ _ Try.underlying41 rfl (cellsAt_one rfl rfl)) (by simp [Value.oneCell']) bdm bd (by decide) (fun v54 m54 hN54 => ?_)
          have ho54 : OwnL TOp m54 mnil v54 (l ++ [(decide (((rNum d0.1 1 (at_, bad)).1) = 1), (last.take (((rNum d0.1 ((last.length : Nat) : Int) ((rNum d0.1 1 (at_, bad)).2)).1).toNat)) ++ ((rBytes d0.1 ((rNum d0.1 16 ((rNum d0.1 ((last.length : Nat) : Int) ((rNum d0.1 1 (at_, bad)).2)).2)).1) ((rNum d0.1 16 ((rNum d0.1 ((last.length : Nat) : Int) ((rNum d0.1 1 (at_, bad)).2)).2)).2)).1), (rBytes d0.1 ((rNum d0.1 32 ((rBytes d0.1 ((rNum d0.1 16 ((rNum d0.1 ((last.length : Nat) : Int) ((rNum d0.1 1 (at_, bad)).2)).2)).1) ((rNum d0.1 16 ((rNum d0.1 ((last.length : Nat) : Int) ((rNum d0.1 1 (at_, bad)).2)).2)).2)).2)).1) ((rNum d0.1 32 ((rBytes d0.1 ((rNum d0.1 16 ((rNum d0.1 ((last.length : Nat) : Int) ((rNum d0.1 1 (at_, bad)).2)).2)).1) ((rNum d0.1 16 ((rNum d0.1 ((last.length : Nat) : Int) ((rNum d0.1 1 (at_, bad)).2)).2)).2)).2)).2)).1)]) := OwnL.one hC54 hN54 (mk_Op (m := _) (decide (((rNum d0.1 1 (at_, bad)).1) = 1)) ((last.take (((rNum d0.1 ((last.length : Nat) : Int) ((rNum d0.1 1 (at_, bad)).2)).1).toNat)) ++ ((rBytes d0.1 ((rNum d0.1 16 ((rNum d0.1 ((last.length : Nat) : Int) ((rNum d0.1 1 (at_, bad)).2)).2)).1) ((rNum d0.1 16 ((rNum d0.1 ((last.length : Nat) : Int) ((rNum d0.1 1 (at_, bad)).2)).2)).2)).1)) ((rBytes d0.1 ((rNum d0.1 32 ((rBytes d0.1 ((rNum d0.1 16 ((rNum d0.1 ((last.length : Nat) : Int) ((rNum d0.1 1 (at_, bad)).2)).2)).1) ((rNum d0.1 16 ((rNum d0.1 ((last.length : Nat) : Int) ((rNum d0.1 1 (at_, bad)).2)).2)).2)).2)).1) ((rNum d0.1 32 ((rBytes d0.1 ((rNum d0.1 16 ((rNum d0.1 ((last.length : Nat) : Int) ((rNum d0.1 1 (at_, bad)).2)).2)).1) ((rNum d0.1 16 ((rNum d0.1 ((last.length : Nat) : Int) ((rNum d0.1 1 (at_, bad)).2)).2)).2)).2)).2)).1) bdm bdm)
          obtain ⟨A54, c54, rfl, l54, k54⟩ := ho54.slice
          simp only [maxLen] at k54
          have hop : rOp2 d0.1 last (at_, bad) = ((decide (((rNum d0.1 1 (at_, bad)).1) = 1), (last.take (((rNum d0.1 ((last.length : Nat) : Int) ((rNum d0.1 1 (at_, bad)).2)).1).toNat)) ++ ((rBytes d0.1 ((rNum d0.1 16 ((rNum d0.1 ((last.length : Nat) : Int) ((rNum d0.1 1 (at_, bad)).2)).2)).1) ((rNum d0.1 16 ((rNum d0.1 ((last.length : Nat) : Int) ((rNum d0.1 1 (at_, bad)).2)).2)).2)).1), (rBytes d0.1 ((rNum d0.1 32 ((rBytes d0.1 ((rNum d0.1 16 ((rNum d0.1 ((last.length : Nat) : Int) ((rNum d0.1 1 (at_, bad)).2)).2)).1) ((rNum d0.1 16 ((rNum d0.1 ((last.length : Nat) : Int) ((rNum d0.1 1 (at_, bad)).2)).2)).2)).2)).1) ((rNum d0.1 32 ((rBytes d0.1 ((rNum d0.1 16 ((rNum d0.1 ((last.length : Nat) : Int) ((rNum d0.1 1 (at_, bad)).2)).2)).1) ((rNum d0.1 16 ((rNum d0.1 ((last.length : Nat) : Int) ((rNum d0.1 1 (at_, bad)).2)).2)).2)).2)).2)).1), ((rBytes d0.1 ((rNum d0.1 32 ((rBytes d0.1 ((rNum d0.1 16 ((rNum d0.1 ((last.length : Nat) : Int) ((rNum d0.1 1 (at_, bad)).2)).2)).1) ((rNum d0.1 16 ((rNum d0.1 ((last.length : Nat) : Int) ((rNum d0.1 1 (at_, bad)).2)).2)).2)).2)).1) ((rNum d0.1 32 ((rBytes d0.1 ((rNum d0.1 16 ((rNum d0.1 ((last.length : Nat) : Int) ((rNum d0.1 1 (at_, bad)).2)).2)).1) ((rNum d0.1 16 ((rNum d0.1 ((last.length : Nat) : Int) ((rNum d0.1 1 (at_, bad)).2)).2)).2)).2)).2)).2.1, (rBytes d0.1 ((rNum d0.1 32 ((rBytes d0.1 ((rNum d0.1 16 ((rNum d0.1 ((last.length : Nat) : Int) ((rNum d0.1 1 (at_, bad)).2)).2)).1) ((rNum d0.1 16 ((rNum d0.1 ((last.length : Nat) : Int) ((rNum d0.1 1 (at_, bad)).2)).2)).2)).2)).1) ((rNum d0.1 32 ((rBytes d0.1 ((rNum d0.1 16 ((rNum d0.1 ((last.length : Nat) : Int) ((rNum d0.1 1 (at_, bad)).2)).2)).1) ((rNum d0.1 16 ((rNum d0.1 ((last.length : Nat) : Int) ((rNum d0.1 1 (at_, bad)).2)).2)).2)).2)).2)).2.2)) := by unfold rOp2 rText; dsimp only; (first | simp only [if_pos ‹(rNum d0.1 1 (at_, bad)).1 = 1›] | simp only [if_neg ‹¬ (rNum d0.1 1 (at_, bad)).1 = 1›]); (first | rw [if_pos (by assumption)] | rw [if_neg (by assumption)])
          have hs9 := ops2_step hp (by omega) (by assumption)
          have ho9 := (rOp2_ok (last := last) hok (by omega)).1
          have hl9 := (rOp2_ok (last := last) hok (by omega)).2.1
          rw [hop] at hs9 ho9 hl9
          dsimp only at hs9 ho9 hl9
          refine VO.as ?_
          refine VO.k12 0 2 3 4 5 6 7 8 9 20 43 55 ?_
          refine VC.reg ?_
          refine VO.y rfl (.fa rfl tst40 rfl) ?_
          refine VO.y rfl (.ld1 132 rfl tk9 rfl (cellsAt_one rfl rfl)) ?_
          refine VO.as ?_
          refine VO.k12 0 2 3 4 5 6 7 8 9 20 43 55 ?_
          refine outBN ?_
          refine outN ?_
          refine VC.reg ?_
          refine VO.mv ?_
          refine VO.y rfl (.sub rfl rfl rfl ⟨bd, bd⟩) ?_
          refine VO.as ?_
          refine VO.keep [141, 132, 125, 106, 0] [(141, mone g0 (.cells [Value.slice A0_0 (d0.1.length) (c0_0), Value.int .i64 ((rBytes d0.1 ((rNum d0.1 32 ((rBytes d0.1 ((rNum d0.1 16 ((rNum d0.1 ((last.length : Nat) : Int) ((rNum d0.1 1 (at_, bad)).2)).2)).1) ((rNum d0.1 16 ((rNum d0.1 ((last.length : Nat) : Int) ((rNum d0.1 1 (at_, bad)).2)).2)).2)).2)).1) ((rNum d0.1 32 ((rBytes d0.1 ((rNum d0.1 16 ((rNum d0.1 ((last.length : Nat) : Int) ((rNum d0.1 1 (at_, bad)).2)).2)).1) ((rNum d0.1 16 ((rNum d0.1 ((last.length : Nat) : Int) ((rNum d0.1 1 (at_, bad)).2)).2)).2)).2)).2)).2.1), Value.bool ((rBytes d0.1 ((rNum d0.1 32 ((rBytes d0.1 ((rNum d0.1 16 ((rNum d0.1 ((last.length : Nat) : Int) ((rNum d0.1 1 (at_, bad)).2)).2)).1) ((rNum d0.1 16 ((rNum d0.1 ((last.length : Nat) : Int) ((rNum d0.1 1 (at_, bad)).2)).2)).2)).2)).1) ((rNum d0.1 32 ((rBytes d0.1 ((rNum d0.1 16 ((rNum d0.1 ((last.length : Nat) : Int) ((rNum d0.1 1 (at_, bad)).2)).2)).1) ((rNum d0.1 16 ((rNum d0.1 ((last.length : Nat) : Int) ((rNum d0.1 1 (at_, bad)).2)).2)).2)).2)).2)).2.2)].toArray E0 (0, 0))), (132, mone g31 (.cells [Value.bool (decide (((rNum d0.1 1 (at_, bad)).1) = 1)), str ((last.take (((rNum d0.1 ((last.length : Nat) : Int) ((rNum d0.1 1 (at_, bad)).2)).1).toNat)) ++ ((rBytes d0.1 ((rNum d0.1 16 ((rNum d0.1 ((last.length : Nat) : Int) ((rNum d0.1 1 (at_, bad)).2)).2)).1) ((rNum d0.1 16 ((rNum d0.1 ((last.length : Nat) : Int) ((rNum d0.1 1 (at_, bad)).2)).2)).2)).1)), str ((rBytes d0.1 ((rNum d0.1 32 ((rBytes d0.1 ((rNum d0.1 16 ((rNum d0.1 ((last.length : Nat) : Int) ((rNum d0.1 1 (at_, bad)).2)).2)).1) ((rNum d0.1 16 ((rNum d0.1 ((last.length : Nat) : Int) ((rNum d0.1 1 (at_, bad)).2)).2)).2)).2)).1) ((rNum d0.1 32 ((rBytes d0.1 ((rNum d0.1 16 ((rNum d0.1 ((last.length : Nat) : Int) ((rNum d0.1 1 (at_, bad)).2)).2)).1) ((rNum d0.1 16 ((rNum d0.1 ((last.length : Nat) : Int) ((rNum d0.1 1 (at_, bad)).2)).2)).2)).2)).2)).1)].toArray 40 (0, 0))), (125, p24_0), (106, m54), (0, mout (wm W) (mone g0 (.cells [Value.slice A0_0 (d0.1.length) (c0_0), Value.int .i64 (d0.2.1), Value.bool d0.2.2].toArray E0 (0, 0))))] (by kernel_rfl) ?_
          refine VO.k12 0 2 3 4 5 6 7 8 9 20 43 55 ?_
          exact outN ⟨⟨k - 1, (last.take (((rNum d0.1 ((last.length : Nat) : Int) ((rNum d0.1 1 (at_, bad)).2)).1).toNat)) ++ ((rBytes d0.1 ((rNum d0.1 16 ((rNum d0.1 ((last.length : Nat) : Int) ((rNum d0.1 1 (at_, bad)).2)).2)).1) ((rNum d0.1 16 ((rNum d0.1 ((last.length : Nat) : Int) ((rNum d0.1 1 (at_, bad)).2)).2)).2)).1), l ++ [(decide (((rNum d0.1 1 (at_, bad)).1) = 1), (last.take (((rNum d0.1 ((last.length : Nat) : Int) ((rNum d0.1 1 (at_, bad)).2)).1).toNat)) ++ ((rBytes d0.1 ((rNum d0.1 16 ((rNum d0.1 ((last.length : Nat) : Int) ((rNum d0.1 1 (at_, bad)).2)).2)).1) ((rNum d0.1 16 ((rNum d0.1 ((last.length : Nat) : Int) ((rNum d0.1 1 (at_, bad)).2)).2)).2)).1), (rBytes d0.1 ((rNum d0.1 32 ((rBytes d0.1 ((rNum d0.1 16 ((rNum d0.1 ((last.length : Nat) : Int) ((rNum d0.1 1 (at_, bad)).2)).2)).1) ((rNum d0.1 16 ((rNum d0.1 ((last.length : Nat) : Int) ((rNum d0.1 1 (at_, bad)).2)).2)).2)).2)).1) ((rNum d0.1 32 ((rBytes d0.1 ((rNum d0.1 16 ((rNum d0.1 ((last.length : Nat) : Int) ((rNum d0.1 1 (at_, bad)).2)).2)).1) ((rNum d0.1 16 ((rNum d0.1 ((last.length : Nat) : Int) ((rNum d0.1 1 (at_, bad)).2)).2)).2)).2)).2)).1)], A54, c54, m54, (rBytes d0.1 ((rNum d0.1 32 ((rBytes d0.1 ((rNum d0.1 16 ((rNum d0.1 ((last.length : Nat) : Int) ((rNum d0.1 1 (at_, bad)).2)).2)).1) ((rNum d0.1 16 ((rNum d0.1 ((last.length : Nat) : Int) ((rNum d0.1 1 (at_, bad)).2)).2)).2)).2)).1) ((rNum d0.1 32 ((rBytes d0.1 ((rNum d0.1 16 ((rNum d0.1 ((last.length : Nat) : Int) ((rNum d0.1 1 (at_, bad)).2)).2)).1) ((rNum d0.1 16 ((rNum d0.1 ((last.length : Nat) : Int) ((rNum d0.1 1 (at_, bad)).2)).2)).2)).2)).2)).2.1, (rBytes d0.1 ((rNum d0.1 32 ((rBytes d0.1 ((rNum d0.1 16 ((rNum d0.1 ((last.length : Nat) : Int) ((rNum d0.1 1 (at_, bad)).2)).2)).1) ((rNum d0.1 16 ((rNum d0.1 ((last.length : Nat) : Int) ((rNum d0.1 1 (at_, bad)).2)).2)).2)).2)).1) ((rNum d0.1 32 ((rBytes d0.1 ((rNum d0.1 16 ((rNum d0.1 ((last.length : Nat) : Int) ((rNum d0.1 1 (at_, bad)).2)).2)).1) ((rNum d0.1 16 ((rNum d0.1 ((last.length : Nat) : Int) ((rNum d0.1 1 (at_, bad)).2)).2)).2)).2)).2)).2.2⟩, ⟨by exact hs9, by exact ho9, by omega, by (simp only [List.length_append, List.length_cons, List.length_nil]; omega), by dsimp only; omega, ho54⟩, bd, ⟨⟨rfl, rfl, rfl, rfl, rfl, trivial⟩, fun _ h => Inv.sub (Inv.num h 141 1 rfl) [106, 1, 0]⟩⟩
      · -- TTF
        refine VC.skip ?_
        refine outN ?_
        refine VC.seq ?_
        refine VC.rs ?_
        refine VO.mv ?_
        refine VO.y rfl (.fa rfl tst40 rfl) ?_
        refine VO.y rfl (.ld1 132 rfl tk9 rfl (cellsAt_one rfl rfl)) ?_
        refine VO.callN 155 rfl fnOk92 rfl (fun W hW => rShared_ok W last bdm ((last.take (((rNum d0.1 ((last.length : Nat) : Int) ((rNum d0.1 1 (at_, bad)).2)).1).toNat)) ++ ((rBytes d0.1 ((rNum d0.1 16 ((rNum d0.1 ((last.length : Nat) : Int) ((rNum d0.1 1 (at_, bad)).2)).2)).1) ((rNum d0.1 16 ((rNum d0.1 ((last.length : Nat) : Int) ((rNum d0.1 1 (at_, bad)).2)).2)).2)).1)) bdm) (fun v55 m55 hv55 => ?_)
        subst hv55
        have hfa56 := shared_le last ((last.take (((rNum d0.1 ((last.length : Nat) : Int) ((rNum d0.1 1 (at_, bad)).2)).1).toNat)) ++ ((rBytes d0.1 ((rNum d0.1 16 ((rNum d0.1 ((last.length : Nat) : Int) ((rNum d0.1 1 (at_, bad)).2)).2)).1) ((rNum d0.1 16 ((rNum d0.1 ((last.length : Nat) : Int) ((rNum d0.1 1 (at_, bad)).2)).2)).2)).1))
        refine VO.mv ?_
        refine VO.y rfl (.neq rfl rfl) ?_
        refine VO.k12 0 2 3 4 5 6 7 8 9 20 43 55 ?_
        refine VC.cond rfl (fun hc57 => ?_) (fun hc57 => ?_)
        · -- TTFT
          refine VC.reg ?_
          refine VO.mv ?_
          refine VO.y rfl (.nilp rfl) ?_
          refine VO.y rfl (.fa rfl tst79 rfl) ?_
          refine VO.store (k := 1) (c' := [Value.slice A0_0 (d0.1.length) (c0_0), Value.int .i64 ((rBytes d0.1 ((rNum d0.1 16 ((rNum d0.1 ((last.length : Nat) : Int) ((rNum d0.1 1 (at_, bad)).2)).2)).1) ((rNum d0.1 16 ((rNum d0.1 ((last.length : Nat) : Int) ((rNum d0.1 1 (at_, bad)).2)).2)).2)).2.1), Value.bool true]) 126 rfl rfl (.inr ⟨tk4, rfl⟩) rfl rfl rfl rfl rfl ?_
          refine VO.keep [132, 125, 126, 106, 0] [(132, mone g31 (.cells [Value.bool (decide (((rNum d0.1 1 (at_, bad)).1) = 1)), str ((last.take (((rNum d0.1 ((last.length : Nat) : Int) ((rNum d0.1 1 (at_, bad)).2)).1).toNat)) ++ ((rBytes d0.1 ((rNum d0.1 16 ((rNum d0.1 ((last.length : Nat) : Int) ((rNum d0.1 1 (at_, bad)).2)).2)).1) ((rNum d0.1 16 ((rNum d0.1 ((last.length : Nat) : Int) ((rNum d0.1 1 (at_, bad)).2)).2)).2)).1)), str ([])].toArray 40 (0, 0))), (125, p24_0), (126, mone g0 (.cells [Value.slice A0_0 (d0.1.length) (c0_0), Value.int .i64 ((rBytes d0.1 ((rNum d0.1 16 ((rNum d0.1 ((last.length : Nat) : Int) ((rNum d0.1 1 (at_, bad)).2)).2)).1) ((rNum d0.1 16 ((rNum d0.1 ((last.length : Nat) : Int) ((rNum d0.1 1 (at_, bad)).2)).2)).2)).2.1), Value.bool true].toArray E0 (0, 0))), (106, l_m), (0, mout (wm W) (mone g0 (.cells [Value.slice A0_0 (d0.1.length) (c0_0), Value.int .i64 (d0.2.1), Value.bool d0.2.2].toArray E0 (0, 0))))] (by kernel_rfl) ?_
          refine VO.k12 0 2 3 4 5 6 7 8 9 20 43 55 ?_
          refine outN ?_
          refine VC.rs ?_
          refine VO.mv ?_
          refine VO.y rfl (.ldA 132 rfl tk40 rfl (cellsAt_one rfl rfl)) ?_
          refine VO.bsl (cs := [Value.bool (decide (((rNum d0.1 1 (at_, bad)).1) = 1)), str ((last.take (((rNum d0.1 ((last.length : Nat) : Int) ((rNum d0.1 1 (at_, bad)).2)).1).toNat)) ++ ((rBytes d0.1 ((rNum d0.1 16 ((rNum d0.1 ((last.length : Nat) : Int) ((rNum d0.1 1 (at_, bad)).2)).2)).1) ((rNum d0.1 16 ((rNum d0.1 ((last.length : Nat) : Int) ((rNum d0.1 1 (at_, bad)).2)).2)).2)).1)), str ([])]) 159 rfl rfl tsl41 tz40 rfl rfl (fun g58 => ?_)
          obtain ⟨mo60, cs60, hM60, hA60, hC60⟩ := h_l
          refine VO.app 106 rfl rfl rfl tsl41 tz40 rfl rfl hM60 hA60 (.row 159 _ _ _ 1 1 _ _ Try.underlying41 rfl (cellsAt_one rfl rfl)) (by simp [Value.oneCell']) bdm bd (by decide) (fun v60 m60 hN60 => ?_)
          have ho60 : OwnL TOp m60 mnil v60 (l ++ [(decide (((rNum d0.1 1 (at_, bad)).1) = 1), (last.take (((rNum d0.1 ((last.length : Nat) : Int) ((rNum d0.1 1 (at_, bad)).2)).1).toNat)) ++ ((rBytes d0.1 ((rNum d0.1 16 ((rNum d0.1 ((last.length : Nat) : Int) ((rNum d0.1 1 (at_, bad)).2)).2)).1) ((rNum d0.1 16 ((rNum d0.1 ((last.length : Nat) : Int) ((rNum d0.1 1 (at_, bad)).2)).2)).2)).1), [])]) := OwnL.one hC60 hN60 (mk_Op (m := _) (decide (((rNum d0.1 1 (at_, bad)).1) = 1)) ((last.take (((rNum d0.1 ((last.length : Nat) : Int) ((rNum d0.1 1 (at_, bad)).2)).1).toNat)) ++ ((rBytes d0.1 ((rNum d0.1 16 ((rNum d0.1 ((last.length : Nat) : Int) ((rNum d0.1 1 (at_, bad)).2)).2)).1) ((rNum d0.1 16 ((rNum d0.1 ((last.length : Nat) : Int) ((rNum d0.1 1 (at_, bad)).2)).2)).2)).1)) [] bdm bdm)
          obtain ⟨A60, c60, rfl, l60, k60⟩ := ho60.slice
          simp only [maxLen] at k60
          have hop : rOp2 d0.1 last (at_, bad) = ((decide (((rNum d0.1 1 (at_, bad)).1) = 1), (last.take (((rNum d0.1 ((last.length : Nat) : Int) ((rNum d0.1 1 (at_, bad)).2)).1).toNat)) ++ ((rBytes d0.1 ((rNum d0.1 16 ((rNum d0.1 ((last.length : Nat) : Int) ((rNum d0.1 1 (at_, bad)).2)).2)).1) ((rNum d0.1 16 ((rNum d0.1 ((last.length : Nat) : Int) ((rNum d0.1 1 (at_, bad)).2)).2)).2)).1), []), ((rBytes d0.1 ((rNum d0.1 16 ((rNum d0.1 ((last.length : Nat) : Int) ((rNum d0.1 1 (at_, bad)).2)).2)).1) ((rNum d0.1 16 ((rNum d0.1 ((last.length : Nat) : Int) ((rNum d0.1 1 (at_, bad)).2)).2)).2)).2.1, true)) := by unfold rOp2 rText; dsimp only; (first | simp only [if_pos ‹(rNum d0.1 1 (at_, bad)).1 = 1›] | simp only [if_neg ‹¬ (rNum d0.1 1 (at_, bad)).1 = 1›]); (first | rw [if_pos (by assumption)] | rw [if_neg (by assumption)])
          have hs9 := ops2_step hp (by omega) (by assumption)
          have ho9 := (rOp2_ok (last := last) hok (by omega)).1
          have hl9 := (rOp2_ok (last := last) hok (by omega)).2.1
          rw [hop] at hs9 ho9 hl9
          dsimp only at hs9 ho9 hl9
          refine VO.as ?_
          refine VO.k12 0 2 3 4 5 6 7 8 9 20 43 55 ?_
          refine VC.reg ?_
          refine VO.y rfl (.fa rfl tst40 rfl) ?_
          refine VO.y rfl (.ld1 132 rfl tk9 rfl (cellsAt_one rfl rfl)) ?_
          refine VO.as ?_
          refine VO.k12 0 2 3 4 5 6 7 8 9 20 43 55 ?_
          refine outBN ?_
          refine outN ?_
          refine VC.reg ?_
          refine VO.mv ?_
          refine VO.y rfl (.sub rfl rfl rfl ⟨bd, bd⟩) ?_
          refine VO.as ?_
          refine VO.keep [132, 125, 126, 106, 0] [(132, mone g31 (.cells [Value.bool (decide (((rNum d0.1 1 (at_, bad)).1) = 1)), str ((last.take (((rNum d0.1 ((last.length : Nat) : Int) ((rNum d0.1 1 (at_, bad)).2)).1).toNat)) ++ ((rBytes d0.1 ((rNum d0.1 16 ((rNum d0.1 ((last.length : Nat) : Int) ((rNum d0.1 1 (at_, bad)).2)).2)).1) ((rNum d0.1 16 ((rNum d0.1 ((last.length : Nat) : Int) ((rNum d0.1 1 (at_, bad)).2)).2)).2)).1)), str ([])].toArray 40 (0, 0))), (125, p24_0), (126, mone g0 (.cells [Value.slice A0_0 (d0.1.length) (c0_0), Value.int .i64 ((rBytes d0.1 ((rNum d0.1 16 ((rNum d0.1 ((last.length : Nat) : Int) ((rNum d0.1 1 (at_, bad)).2)).2)).1) ((rNum d0.1 16 ((rNum d0.1 ((last.length : Nat) : Int) ((rNum d0.1 1 (at_, bad)).2)).2)).2)).2.1), Value.bool true].toArray E0 (0, 0))), (106, m60), (0, mout (wm W) (mone g0 (.cells [Value.slice A0_0 (d0.1.length) (c0_0), Value.int .i64 (d0.2.1), Value.bool d0.2.2].toArray E0 (0, 0))))] (by kernel_rfl) ?_
          refine VO.k12 0 2 3 4 5 6 7 8 9 20 43 55 ?_
          exact outN ⟨⟨k - 1, (last.take (((rNum d0.1 ((last.length : Nat) : Int) ((rNum d0.1 1 (at_, bad)).2)).1).toNat)) ++ ((rBytes d0.1 ((rNum d0.1 16 ((rNum d0.1 ((last.length : Nat) : Int) ((rNum d0.1 1 (at_, bad)).2)).2)).1) ((rNum d0.1 16 ((rNum d0.1 ((last.length : Nat) : Int) ((rNum d0.1 1 (at_, bad)).2)).2)).2)).1), l ++ [(decide (((rNum d0.1 1 (at_, bad)).1) = 1), (last.take (((rNum d0.1 ((last.length : Nat) : Int) ((rNum d0.1 1 (at_, bad)).2)).1).toNat)) ++ ((rBytes d0.1 ((rNum d0.1 16 ((rNum d0.1 ((last.length : Nat) : Int) ((rNum d0.1 1 (at_, bad)).2)).2)).1) ((rNum d0.1 16 ((rNum d0.1 ((last.length : Nat) : Int) ((rNum d0.1 1 (at_, bad)).2)).2)).2)).1), [])], A60, c60, m60, (rBytes d0.1 ((rNum d0.1 16 ((rNum d0.1 ((last.length : Nat) : Int) ((rNum d0.1 1 (at_, bad)).2)).2)).1) ((rNum d0.1 16 ((rNum d0.1 ((last.length : Nat) : Int) ((rNum d0.1 1 (at_, bad)).2)).2)).2)).2.1, true⟩, ⟨by exact hs9, by exact ho9, by omega, by (simp only [List.length_append, List.length_cons, List.length_nil]; omega), by dsimp only; omega, ho60⟩, bd, ⟨⟨rfl, rfl, rfl, rfl, rfl, trivial⟩, fun _ h => Inv.sub (Inv.num h 126 1 rfl) [106, 1, 0]⟩⟩
        · -- TTFF
          refine VC.skip ?_
          refine outN ?_
          refine VC.rs ?_
          refine VO.mv ?_
          refine VO.y rfl (.ldA 132 rfl tk40 rfl (cellsAt_one rfl rfl)) ?_
          refine VO.bsl (cs := [Value.bool (decide (((rNum d0.1 1 (at_, bad)).1) = 1)), str ((last.take (((rNum d0.1 ((last.length : Nat) : Int) ((rNum d0.1 1 (at_, bad)).2)).1).toNat)) ++ ((rBytes d0.1 ((rNum d0.1 16 ((rNum d0.1 ((last.length : Nat) : Int) ((rNum d0.1 1 (at_, bad)).2)).2)).1) ((rNum d0.1 16 ((rNum d0.1 ((last.length : Nat) : Int) ((rNum d0.1 1 (at_, bad)).2)).2)).2)).1)), str ([])]) 162 rfl rfl tsl41 tz40 rfl rfl (fun g61 => ?_)
          obtain ⟨mo63, cs63, hM63, hA63, hC63⟩ := h_l
          refine VO.app 106 rfl rfl rfl tsl41 tz40 rfl rfl hM63 hA63 (.row 162 _ _ _ 1 1 _ _ Try.underlying41 rfl (cellsAt_one rfl rfl)) (by simp [Value.oneCell']) bdm bd (by decide) (fun v63 m63 hN63 => ?_)
          have ho63 : OwnL TOp m63 mnil v63 (l ++ [(decide (((rNum d0.1 1 (at_, bad)).1) = 1), (last.take (((rNum d0.1 ((last.length : Nat) : Int) ((rNum d0.1 1 (at_, bad)).2)).1).toNat)) ++ ((rBytes d0.1 ((rNum d0.1 16 ((rNum d0.1 ((last.length : Nat) : Int) ((rNum d0.1 1 (at_, bad)).2)).2)).1) ((rNum d0.1 16 ((rNum d0.1 ((last.length : Nat) : Int) ((rNum d0.1 1 (at_, bad)).2)).2)).2)).1), [])]) := OwnL.one hC63 hN63 (mk_Op (m := _) (decide (((rNum d0.1 1 (at_, bad)).1) = 1)) ((last.take (((rNum d0.1 ((last.length : Nat) : Int) ((rNum d0.1 1 (at_, bad)).2)).1).toNat)) ++ ((rBytes d0.1 ((rNum d0.1 16 ((rNum d0.1 ((last.length : Nat) : Int) ((rNum d0.1 1 (at_, bad)).2)).2)).1) ((rNum d0.1 16 ((rNum d0.1 ((last.length : Nat) : Int) ((rNum d0.1 1 (at_, bad)).2)).2)).2)).1)) [] bdm bdm)
          obtain ⟨A63, c63, rfl, l63, k63⟩ := ho63.slice
          simp only [maxLen] at k63
          have hop : rOp2 d0.1 last (at_, bad) = ((decide (((rNum d0.1 1 (at_, bad)).1) = 1), (last.take (((rNum d0.1 ((last.length : Nat) : Int) ((rNum d0.1 1 (at_, bad)).2)).1).toNat)) ++ ((rBytes d0.1 ((rNum d0.1 16 ((rNum d0.1 ((last.length : Nat) : Int) ((rNum d0.1 1 (at_, bad)).2)).2)).1) ((rNum d0.1 16 ((rNum d0.1 ((last.length : Nat) : Int) ((rNum d0.1 1 (at_, bad)).2)).2)).2)).1), []), ((rBytes d0.1 ((rNum d0.1 16 ((rNum d0.1 ((last.length : Nat) : Int) ((rNum d0.1 1 (at_, bad)).2)).2)).1) ((rNum d0.1 16 ((rNum d0.1 ((last.length : Nat) : Int) ((rNum d0.1 1 (at_, bad)).2)).2)).2)).2.1, (rBytes d0.1 ((rNum d0.1 16 ((rNum d0.1 ((last.length : Nat) : Int) ((rNum d0.1 1 (at_, bad)).2)).2)).1) ((rNum d0.1 16 ((rNum d0.1 ((last.length : Nat) : Int) ((rNum d0.1 1 (at_, bad)).2)).2)).2)).2.2)) := by unfold rOp2 rText; dsimp only; (first | simp only [if_pos ‹(rNum d0.1 1 (at_, bad)).1 = 1›] | simp only [if_neg ‹¬ (rNum d0.1 1 (at_, bad)).1 = 1›]); (first | rw [if_pos (by assumption)] | rw [if_neg (by assumption)])
          have hs9 := ops2_step hp (by omega) (by assumption)
          have ho9 := (rOp2_ok (last := last) hok (by omega)).1
          have hl9 := (rOp2_ok (last := last) hok (by omega)).2.1
          rw [hop] at hs9 ho9 hl9
          dsimp only at hs9 ho9 hl9
          refine VO.as ?_
          refine VO.keep [132, 125, 126, 106, 0] [(132, mone g31 (.cells [Value.bool (decide (((rNum d0.1 1 (at_, bad)).1) = 1)), str ((last.take (((rNum d0.1 ((last.length : Nat) : Int) ((rNum d0.1 1 (at_, bad)).2)).1).toNat)) ++ ((rBytes d0.1 ((rNum d0.1 16 ((rNum d0.1 ((last.length : Nat) : Int) ((rNum d0.1 1 (at_, bad)).2)).2)).1) ((rNum d0.1 16 ((rNum d0.1 ((last.length : Nat) : Int) ((rNum d0.1 1 (at_, bad)).2)).2)).2)).1)), str ([])].toArray 40 (0, 0))), (125, p24_0), (126, mone g0 (.cells [Value.slice A0_0 (d0.1.length) (c0_0), Value.int .i64 ((rBytes d0.1 ((rNum d0.1 16 ((rNum d0.1 ((last.length : Nat) : Int) ((rNum d0.1 1 (at_, bad)).2)).2)).1) ((rNum d0.1 16 ((rNum d0.1 ((last.length : Nat) : Int) ((rNum d0.1 1 (at_, bad)).2)).2)).2)).2.1), Value.bool ((rBytes d0.1 ((rNum d0.1 16 ((rNum d0.1 ((last.length : Nat) : Int) ((rNum d0.1 1 (at_, bad)).2)).2)).1) ((rNum d0.1 16 ((rNum d0.1 ((last.length : Nat) : Int) ((rNum d0.1 1 (at_, bad)).2)).2)).2)).2.2)].toArray E0 (0, 0))), (106, m63), (0, mout (wm W) (mone g0 (.cells [Value.slice A0_0 (d0.1.length) (c0_0), Value.int .i64 (d0.2.1), Value.bool d0.2.2].toArray E0 (0, 0))))] (by kernel_rfl) ?_
          refine VO.k12 0 2 3 4 5 6 7 8 9 20 43 55 ?_
          refine VC.reg ?_
          refine VO.y rfl (.fa rfl tst40 rfl) ?_
          refine VO.y rfl (.ld1 132 rfl tk9 rfl (cellsAt_one rfl rfl)) ?_
          refine VO.as ?_
          refine VO.k12 0 2 3 4 5 6 7 8 9 20 43 55 ?_
          refine outBN ?_
          refine outN ?_
          refine VC.reg ?_
          refine VO.mv ?_
          refine VO.y rfl (.sub rfl rfl rfl ⟨bd, bd⟩) ?_
          refine VO.as ?_
          refine VO.k12 0 2 3 4 5 6 7 8 9 20 43 55 ?_
          exact outN ⟨⟨k - 1, (last.take (((rNum d0.1 ((last.length : Nat) : Int) ((rNum d0.1 1 (at_, bad)).2)).1).toNat)) ++ ((rBytes d0.1 ((rNum d0.1 16 ((rNum d0.1 ((last.length : Nat) : Int) ((rNum d0.1 1 (at_, bad)).2)).2)).1) ((rNum d0.1 16 ((rNum d0.1 ((last.length : Nat) : Int) ((rNum d0.1 1 (at_, bad)).2)).2)).2)).1), l ++ [(decide (((rNum d0.1 1 (at_, bad)).1) = 1), (last.take (((rNum d0.1 ((last.length : Nat) : Int) ((rNum d0.1 1 (at_, bad)).2)).1).toNat)) ++ ((rBytes d0.1 ((rNum d0.1 16 ((rNum d0.1 ((last.length : Nat) : Int) ((rNum d0.1 1 (at_, bad)).2)).2)).1) ((rNum d0.1 16 ((rNum d0.1 ((last.length : Nat) : Int) ((rNum d0.1 1 (at_, bad)).2)).2)).2)).1), [])], A63, c63, m63, (rBytes d0.1 ((rNum d0.1 16 ((rNum d0.1 ((last.length : Nat) : Int) ((rNum d0.1 1 (at_, bad)).2)).2)).1) ((rNum d0.1 16 ((rNum d0.1 ((last.length : Nat) : Int) ((rNum d0.1 1 (at_, bad)).2)).2)).2)).2.1, (rBytes d0.1 ((rNum d0.1 16 ((rNum d0.1 ((last.length : Nat) : Int) ((rNum d0.1 1 (at_, bad)).2)).2)).1) ((rNum d0.1 16 ((rNum d0.1 ((last.length : Nat) : Int) ((rNum d0.1 1 (at_, bad)).2)).2)).2)).2.2⟩, ⟨by exact hs9, by exact ho9, by omega, by (simp only [List.length_append, List.length_cons, List.length_nil]; omega), by dsimp only; omega, ho63⟩, bd, ⟨⟨rfl, rfl, rfl, rfl, rfl, trivial⟩, fun _ h => Inv.sub (Inv.num h 126 1 rfl) [106, 1, 0]⟩⟩
    · -- TF
      refine VC.exit ?_
      refine outE ?_
      refine outE ?_
      refine outBB ?_
      refine outN ?_
      refine VC.seq ?_
      refine VC.rs ?_
      refine VO.mv ?_
      refine VO.y rfl (.nilp rfl) ?_
      refine VO.y rfl (.fa rfl tst79 rfl) ?_
      refine VO.y rfl (.ld1 1 rfl tk4 rfl (cellsAt_one rfl rfl)) ?_
      refine VO.mv ?_
      refine VO.known (t := 69) true rfl hc8 ?_
      refine VO.gN ?_
      refine VO.gN ?_
      refine VO.gN ?_
      refine VO.y rfl (.pT rfl rfl) ?_
      refine VO.keep [106, 1, 0] [(106, l_m), (1, mone g0 (.cells [Value.slice A0_0 (d0.1.length) (c0_0), Value.int .i64 (at_), Value.bool bad].toArray E0 (0, 0))), (0, mout (wm W) (mone g0 (.cells [Value.slice A0_0 (d0.1.length) (c0_0), Value.int .i64 (d0.2.1), Value.bool d0.2.2].toArray E0 (0, 0))))] (by kernel_rfl) ?_
      refine VO.k7 0 2 3 4 5 20 73 ?_
      refine VC.condT rfl ?_
      refine VC.rs ?_
      refine VO.mv ?_
      refine VO.y rfl (.nilp rfl) ?_
      refine VO.y rfl (.fa rfl tst79 rfl) ?_
      refine VO.store (k := 1) (c' := [Value.slice A0_0 (d0.1.length) (c0_0), Value.int .i64 (at_), Value.bool true]) 1 rfl rfl (.inr ⟨tk4, rfl⟩) rfl rfl rfl rfl rfl ?_
      refine VO.k7 0 2 3 4 5 20 73 ?_
      refine VC.rs ?_
      refine VO.as ?_
      refine VO.k7 0 2 3 4 5 20 73 ?_
      refine VC.ret ?_
      refine outR ?_
      refine ⟨_, _, res_run (rs := [.tmp 2]) rfl (.tmp rfl .nil), fun W_ hI => out_of (l := [mone g0 (.cells [Value.slice A0_0 (d0.1.length) (c0_0), Value.int .i64 (at_), Value.bool true].toArray E0 (0, 0))]) hI [1] rfl rfl (mle_refl _) (fun hS_ => ?_)⟩
      dsimp only [packV]
      have he0 : ((nextRef d0.1 d0.2).1 : Ty.Den (.sl TOp)) = [] := by first | rfl | (exact fin0_rNext_ok)
      have hm0_1 : ((nextRef d0.1 d0.2).2.1 : Int) = at_ := by first | rfl | (exact fin0_rNext_ok)
      have hm0_2 : ((nextRef d0.1 d0.2).2.2 : Bool) = true := by first | rfl | (exact fin0_rNext_ok)
      refine ⟨Value.slice none (0) (0), muns [], ?_, ?_, ?_, ?_⟩
      rotate_left
      · (first | exact Seps.grp (ls := [[], [mone g0 (.cells [Value.slice A0_0 (d0.1.length) (c0_0), Value.int .i64 (at_), Value.bool true].toArray E0 (0, 0))]]) hS_ | (rw [hm0_1, hm0_2]; exact Seps.grpM (ls := [[], [mone g0 (.cells [Value.slice A0_0 (d0.1.length) (c0_0), Value.int .i64 (at_), Value.bool true].toArray E0 (0, 0))]]) hS_ (by simp only [List.map, muns_one])) | exact Seps.grpM (ls := [[], [mone g0 (.cells [Value.slice A0_0 (d0.1.length) (c0_0), Value.int .i64 (at_), Value.bool true].toArray E0 (0, 0))]]) hS_ (by simp only [List.map, muns_one]))
      · rw [he0]; exact (Ow.nil _ _)
      · rw [hm0_1]; exact (show inK .i64 _ by simp only [inK]; (first | omega | (simp only [List.length_append, List.length_nil, List.length_cons, List.length_take, List.length_drop] at *; omega)))
      all_goals (first | rfl | (simp [*]; done))
  · -- F
    refine VO.gN ?_
    refine VO.gN ?_
    refine VO.gN ?_
    refine VO.gN ?_
    refine VO.gN ?_
    refine VO.y rfl (.pF rfl rfl) ?_
    refine VO.k6 0 2 3 4 5 20 ?_
    refine VC.condF rfl ?_
    refine VC.exit ?_
    refine outE ?_
    refine outE ?_
    refine outBB ?_
    refine outN ?_
    refine VC.seq ?_
    refine VC.rs ?_
    refine VO.mv ?_
    refine VO.y rfl (.nilp rfl) ?_
    refine VO.y rfl (.fa rfl tst79 rfl) ?_
    refine VO.y rfl (.ld1 1 rfl tk4 rfl (cellsAt_one rfl rfl)) ?_
    refine VO.mv ?_
    refine VO.decB (t := 69) rfl (fun hc64 => ?_) (fun hc64 => ?_)
    · -- FT
      refine VO.gN ?_
      refine VO.gN ?_
      refine VO.gN ?_
      refine VO.y rfl (.pT rfl rfl) ?_
      refine VO.keep [106, 1, 0] [(106, l_m), (1, mone g0 (.cells [Value.slice A0_0 (d0.1.length) (c0_0), Value.int .i64 (at_), Value.bool bad].toArray E0 (0, 0))), (0, mout (wm W) (mone g0 (.cells [Value.slice A0_0 (d0.1.length) (c0_0), Value.int .i64 (d0.2.1), Value.bool d0.2.2].toArray E0 (0, 0))))] (by kernel_rfl) ?_
      refine VO.k7 0 2 3 4 5 20 73 ?_
      refine VC.condT rfl ?_
      refine VC.rs ?_
      refine VO.mv ?_
      refine VO.y rfl (.nilp rfl) ?_
      refine VO.y rfl (.fa rfl tst79 rfl) ?_
      refine VO.store (k := 1) (c' := [Value.slice A0_0 (d0.1.length) (c0_0), Value.int .i64 (at_), Value.bool true]) 1 rfl rfl (.inr ⟨tk4, rfl⟩) rfl rfl rfl rfl rfl ?_
      refine VO.k7 0 2 3 4 5 20 73 ?_
      refine VC.rs ?_
      refine VO.as ?_
      refine VO.k7 0 2 3 4 5 20 73 ?_
      refine VC.ret ?_
      refine outR ?_
      refine ⟨_, _, res_run (rs := [.tmp 2]) rfl (.tmp rfl .nil), fun W_ hI => out_of (l := [mone g0 (.cells [Value.slice A0_0 (d0.1.length) (c0_0), Value.int .i64 (at_), Value.bool true].toArray E0 (0, 0))]) hI [1] rfl rfl (mle_refl _) (fun hS_ => ?_)⟩
      dsimp only [packV]
      have he0 : ((nextRef d0.1 d0.2).1 : Ty.Den (.sl TOp)) = [] := by first | rfl | (exact fin0_rNext_ok)
      have hm0_1 : ((nextRef d0.1 d0.2).2.1 : Int) = at_ := by first | rfl | (exact fin0_rNext_ok)
      have hm0_2 : ((nextRef d0.1 d0.2).2.2 : Bool) = true := by first | rfl | (exact fin0_rNext_ok)
      refine ⟨Value.slice none (0) (0), muns [], ?_, ?_, ?_, ?_⟩
      rotate_left
      · (first | exact Seps.grp (ls := [[], [mone g0 (.cells [Value.slice A0_0 (d0.1.length) (c0_0), Value.int .i64 (at_), Value.bool true].toArray E0 (0, 0))]]) hS_ | (rw [hm0_1, hm0_2]; exact Seps.grpM (ls := [[], [mone g0 (.cells [Value.slice A0_0 (d0.1.length) (c0_0), Value.int .i64 (at_), Value.bool true].toArray E0 (0, 0))]]) hS_ (by simp only [List.map, muns_one])) | exact Seps.grpM (ls := [[], [mone g0 (.cells [Value.slice A0_0 (d0.1.length) (c0_0), Value.int .i64 (at_), Value.bool true].toArray E0 (0, 0))]]) hS_ (by simp only [List.map, muns_one]))
      · rw [he0]; exact (Ow.nil _ _)
      · rw [hm0_1]; exact (show inK .i64 _ by simp only [inK]; (first | omega | (simp only [List.length_append, List.length_nil, List.length_cons, List.length_take, List.length_drop] at *; omega)))
      all_goals (first | rfl | (simp [*]; done))
    · -- FF
      refine VO.gy rfl ⟨_, rfl, rfl⟩ (.mv rfl) ?_
      refine VO.gcallN 165 rfl ⟨_, rfl, rfl⟩ fnOk91 rfl (fun W hW => rbCheck_ok W (OwnL.rd h_l (hW.at (i := 106) rfl) (mle_nil _))) (fun v65 m65 hv65 => ?_)
      subst hv65
      have hfa66 := batchCheck_range l
      refine VO.gy rfl ⟨_, rfl, rfl⟩ (.neq rfl rfl) ?_
      refine VO.y rfl (.pF rfl rfl) ?_
      refine VO.keep [106, 1, 0] [(106, l_m), (1, mone g0 (.cells [Value.slice A0_0 (d0.1.length) (c0_0), Value.int .i64 (at_), Value.bool bad].toArray E0 (0, 0))), (0, mout (wm W) (mone g0 (.cells [Value.slice A0_0 (d0.1.length) (c0_0), Value.int .i64 (d0.2.1), Value.bool d0.2.2].toArray E0 (0, 0))))] (by kernel_rfl) ?_
      refine VO.k7 0 2 3 4 5 20 73 ?_
      refine VC.cond rfl (fun hc67 => ?_) (fun hc67 => ?_)
      · -- FFT
        refine VC.rs ?_
        refine VO.mv ?_
        refine VO.y rfl (.nilp rfl) ?_
        refine VO.y rfl (.fa rfl tst79 rfl) ?_
        refine VO.store (k := 1) (c' := [Value.slice A0_0 (d0.1.length) (c0_0), Value.int .i64 (at_), Value.bool true]) 1 rfl rfl (.inr ⟨tk4, rfl⟩) rfl rfl rfl rfl rfl ?_
        refine VO.k7 0 2 3 4 5 20 73 ?_
        refine VC.rs ?_
        refine VO.as ?_
        refine VO.k7 0 2 3 4 5 20 73 ?_
        refine VC.ret ?_
        refine outR ?_
        refine ⟨_, _, res_run (rs := [.tmp 2]) rfl (.tmp rfl .nil), fun W_ hI => out_of (l := [mone g0 (.cells [Value.slice A0_0 (d0.1.length) (c0_0), Value.int .i64 (at_), Value.bool true].toArray E0 (0, 0))]) hI [1] rfl rfl (mle_refl _) (fun hS_ => ?_)⟩
        dsimp only [packV]
        have he0 : ((nextRef d0.1 d0.2).1 : Ty.Den (.sl TOp)) = [] := by first | rfl | (exact fin0_rNext_ok)
        have hm0_1 : ((nextRef d0.1 d0.2).2.1 : Int) = at_ := by first | rfl | (exact fin0_rNext_ok)
        have hm0_2 : ((nextRef d0.1 d0.2).2.2 : Bool) = true := by first | rfl | (exact fin0_rNext_ok)
        refine ⟨Value.slice none (0) (0), muns [], ?_, ?_, ?_, ?_⟩
        rotate_left
        · (first | exact Seps.grp (ls := [[], [mone g0 (.cells [Value.slice A0_0 (d0.1.length) (c0_0), Value.int .i64 (at_), Value.bool true].toArray E0 (0, 0))]]) hS_ | (rw [hm0_1, hm0_2]; exact Seps.grpM (ls := [[], [mone g0 (.cells [Value.slice A0_0 (d0.1.length) (c0_0), Value.int .i64 (at_), Value.bool true].toArray E0 (0, 0))]]) hS_ (by simp only [List.map, muns_one])) | exact Seps.grpM (ls := [[], [mone g0 (.cells [Value.slice A0_0 (d0.1.length) (c0_0), Value.int .i64 (at_), Value.bool true].toArray E0 (0, 0))]]) hS_ (by simp only [List.map, muns_one]))
        · rw [he0]; exact (Ow.nil _ _)
        · rw [hm0_1]; exact (show inK .i64 _ by simp only [inK]; (first | omega | (simp only [List.length_append, List.length_nil, List.length_cons, List.length_take, List.length_drop] at *; omega)))
        all_goals (first | rfl | (simp [*]; done))
      · -- FFF
        refine VC.skip ?_
        refine outN ?_
        refine VC.rs ?_
        refine VO.mv ?_
        refine VO.as ?_
        refine VO.k7 0 2 3 4 5 20 73 ?_
        refine VC.ret ?_
        refine ⟨_, _, res_run (rs := [.tmp 2]) rfl (.tmp rfl .nil), fun W_ hI => out_of (l := [l_m, mone g0 (.cells [Value.slice A0_0 (d0.1.length) (c0_0), Value.int .i64 (at_), Value.bool bad].toArray E0 (0, 0))]) hI [106, 1] rfl rfl (mle_refl _) (fun hS_ => ?_)⟩
        dsimp only [packV]
        have he0 : ((nextRef d0.1 d0.2).1 : Ty.Den (.sl TOp)) = l := by first | rfl | (exact fin0_rNext_ok)
        have hm0_1 : ((nextRef d0.1 d0.2).2.1 : Int) = at_ := by first | rfl | (exact fin0_rNext_ok)
        have hm0_2 : ((nextRef d0.1 d0.2).2.2 : Bool) = bad := by first | rfl | (exact fin0_rNext_ok)
        refine ⟨Value.slice l_A (l.length) (l_c), muns [l_m], ?_, ?_, ?_, ?_⟩
        rotate_left
        · (first | exact Seps.grp (ls := [[l_m], [mone g0 (.cells [Value.slice A0_0 (d0.1.length) (c0_0), Value.int .i64 (at_), Value.bool bad].toArray E0 (0, 0))]]) hS_ | (rw [hm0_1, hm0_2]; exact Seps.grpM (ls := [[l_m], [mone g0 (.cells [Value.slice A0_0 (d0.1.length) (c0_0), Value.int .i64 (at_), Value.bool bad].toArray E0 (0, 0))]]) hS_ (by simp only [List.map, muns_one])) | exact Seps.grpM (ls := [[l_m], [mone g0 (.cells [Value.slice A0_0 (d0.1.length) (c0_0), Value.int .i64 (at_), Value.bool bad].toArray E0 (0, 0))]]) hS_ (by simp only [List.map, muns_one]))
        · rw [he0]; exact (Ow.up (OwnL.ow h_l rfl) ((Seps.self hS_ (List.Sublist.cons_cons _ (List.Sublist.cons _ List.Sublist.slnil))).1 _ (.head _)))
        · rw [hm0_1]; exact (show inK .i64 _ by simp only [inK]; (first | omega | (simp only [List.length_append, List.length_nil, List.length_cons, List.length_take, List.length_drop] at *; omega)))
        all_goals (first | rfl | (simp [*]; done))
theorem fin0_bAppend_ok {P : Prop} (h : P := by first | omega | (have ho_ := batchCheck_mem (by omega : batchCheck d1 = 0) (List.mem_of_getElem? ‹d1[k]? = some _›); have := ho_.2.1; have := ho_.2.2.1; have := encOp_len (last := last) ho_; have := (batch_len (by omega : batchCheck d1 = 0)).2; omega) | (have ho_ := batchCheck_mem (by omega : batchCheck d1 = 0) (List.mem_of_getElem? ‹d1[k]? = some _›); have := ho_.2.1; have := ho_.2.2.1; have := (batch_len (by omega : batchCheck d1 = 0)).2; simp only [List.length_append, List.length_nil, List.length_cons, List.length_take, List.length_drop] at *; omega)) : P := h
theorem bAppend_ok (W : World) {v0 : Value} {d0 : List UInt8} (h0 : Rd (.sl .byte) (wm W) [v0] d0) {v1 : Value} {d1 : List DOp} (h1 : Rd (.sl TOp) (wm W) [v1] d1) (e0 : d0.length ≤ 140737488352000) : CallR Try.prog 64 [v0, v1] W (mnil) (fun v m' => ∃ (s0 : Value), v = .tuple #[s0, .int .i64 ((bAppend d0 d1).2)] ∧ Ow (.sl .byte) m' [s0] ((bAppend d0 d1).1)) := by
  obtain ⟨A0, c0, rfl, l0, k0⟩ := h0.slice
  simp only [maxLen] at k0
  obtain ⟨A1, c1, rfl, l1, k1⟩ := h1.slice
  simp only [maxLen] at k1
  refine CallR.ofA (n := 70) Try.func64 rfl rfl rfl ?_
  refine VC.rs ?_
  refine VO.as ?_
  refine VO.as ?_
  refine VO.k4 0 1 4 5 ?_
  refine VC.seq ?_
  refine VC.rs ?_
  refine VO.mv ?_
  refine VO.callN 101 rfl fnOk89 rfl (fun W hW => bCheck_ok W (Rd.mono h1 (hW.at (i := 0) rfl))) (fun v1 m1 hv1 => ?_)
  subst hv1
  have hfa2 := batchCheck_range d1
  refine VO.as ?_
  refine VO.k5 0 1 4 5 6 ?_
  refine VC.rs ?_
  refine VO.mv ?_
  refine VO.y rfl (.neq rfl rfl) ?_
  refine VO.keep [0] [(0, wm W)] (by kernel_rfl) ?_
  refine VO.k6 0 1 4 5 6 16 ?_
  refine VC.cond rfl (fun hc3 => ?_) (fun hc3 => ?_)
  · -- T
    refine VC.rs ?_
    refine VO.mv ?_
    refine VO.as ?_
    refine VO.as ?_
    refine VO.k6 0 1 4 5 6 16 ?_
    refine VC.ret ?_
    refine outR ?_
    refine ⟨_, _, res_run (rs := [.tmp 4, .tmp 5]) rfl (.tmp rfl (.tmp rfl .nil)), fun W_ hI => out_of (l := []) hI [] rfl rfl (mle_refl _) (fun hS_ => ?_)⟩
    dsimp only [packV]
    have he0 : ((bAppend d0 d1).1 : Ty.Den (.sl .byte)) = [] := by first | rfl | (first | (rw [bAppend_bad ‹_›] <;> rfl) | (rw [bAppend_good (by omega)]; dsimp only; rw [← he, List.drop_of_length_le (by omega)]; simp [encOps]))
    refine ⟨Value.slice none (0) (0), ?_, ?_⟩
    rotate_left
    · rw [he0]; exact (Ow.nil _ _)
    all_goals (first | rfl | (first | (rw [bAppend_bad ‹_›] <;> rfl) | (rw [bAppend_good (by omega)] <;> rfl)))
  · -- F
    refine VC.skip ?_
    refine outN ?_
    refine VC.rs ?_
    refine VO.mv ?_
    refine VO.mv ?_
    refine VO.y rfl (.lenS rfl tsl41) ?_
    refine VO.y rfl (.cvI rfl ⟨_, Try.underlying3⟩ Try.underlying62 (IntWalk.u64_in _ (by exact fin0_bAppend_ok))) ?_
    refine VO.callN 104 rfl fnOk32 rfl (fun W hW => vAppend_ok W (Rd.mono h0 (hW.at (i := 0) rfl)) d1.length (by exact fin0_bAppend_ok) (by exact fin0_bAppend_ok)) (fun v4 m4 hv4 => ?_)
    obtain ⟨s4_0, rfl, f4_0⟩ := hv4
    have hfa5 := venc_len (x := d1.length) (by first | omega | exact or64 (by assumption) _)
    obtain ⟨A4_0, c4_0, eq4_0, l4_0, k4_0⟩ := f4_0.slice
    subst eq4_0
    simp only [maxLen] at k4_0
    refine VO.as ?_
    refine VO.k7 0 1 4 5 6 7 16 ?_
    refine VC.rs ?_
    refine VO.as ?_
    refine VO.k8 0 1 4 5 6 7 8 16 ?_
    refine VC.seq ?_
    refine VC.rs ?_
    refine VO.mv ?_
    refine VO.y rfl (.lenS rfl tsl41) ?_
    refine VO.mv ?_
    refine VO.keep [104, 0] [(104, m4), (0, wm W)] (by kernel_rfl) ?_
    refine VO.k11 0 1 4 5 6 7 8 16 23 24 25 ?_
    refine VC.block ?_
    refine VC.loop (G := Nat × (List UInt8) × (List UInt8) × (Option Addr) × Nat × Mem) (fun g => [(7, Value.slice (g.2.2.2.1) ((g.2.2.1).length) ((g.2.2.2.2.1))), (8, str ((g.2.1))), (25, Value.int .i64 ((((g.1) : Nat) : Int))), (0, Value.slice A0 (d0.length) (c0)), (1, Value.slice A1 (d1.length) (c1)), (4, Value.slice none (0) (0)), (5, Value.int .i64 (0)), (6, Value.int .i64 (batchCheck d1)), (16, Value.bool (decide (¬ (batchCheck d1) = 0))), (23, Value.slice A1 (d1.length) (c1)), (24, Value.int .i64 (((d1.length : Nat) : Int)))]) (fun g => [(104, (g.2.2.2.2.2)), (0, wm W)]) (fun g => ((g.1) ≤ d1.length) ∧ ((g.2.2.1) ++ encOps (g.2.1) (d1.drop (g.1)) = d0 ++ batchEnc d1) ∧ ((g.2.2.1).length ≤ d0.length + 10 + 80 * (g.1)) ∧ ((g.2.1).length ≤ 16) ∧ (OwnL .byte (g.2.2.2.2.2) mnil (.slice (g.2.2.2.1) (g.2.2.1).length (g.2.2.2.2.1)) (g.2.2.1))) (fun g => d1.length - (g.1)) (0, [], d0 ++ venc d1.length, A4_0, c4_0, m4) (⟨by omega, by (simp [batchEnc]), by (have := venc_len (x := d1.length) (by omega); simp; omega), by (simp; done), (Ow.ownl f4_0 rfl mnil)⟩) ⟨⟨rfl, rfl, rfl, rfl, rfl, rfl, rfl, rfl, rfl, rfl, rfl, trivial⟩, fun _ h => h.sub [104, 0]⟩ ?_
    rintro ⟨k, last, out, out_A, out_c, out_m⟩ ⟨hk, he, hlo, hla, h_out⟩
    replace hk : k ≤ d1.length := hk
    replace he : out ++ encOps last (d1.drop k) = d0 ++ batchEnc d1 := he
    replace hlo : out.length ≤ d0.length + 10 + 80 * k := hlo
    replace hla : last.length ≤ 16 := hla
    replace h_out : OwnL .byte out_m mnil (.slice out_A out.length out_c) out := h_out
    show VC _ _ _ _ _ [(7, Value.slice out_A (out.length) (out_c)), (8, str (last)), (25, Value.int .i64 (((k : Nat) : Int))), (0, Value.slice A0 (d0.length) (c0)), (1, Value.slice A1 (d1.length) (c1)), (4, Value.slice none (0) (0)), (5, Value.int .i64 (0)), (6, Value.int .i64 (batchCheck d1)), (16, Value.bool (decide (¬ (batchCheck d1) = 0))), (23, Value.slice A1 (d1.length) (c1)), (24, Value.int .i64 (((d1.length : Nat) : Int)))] [(104, out_m), (0, wm W)]
    have l_out : out.length ≤ out_c := by obtain ⟨_, _, he, hl, _⟩ := h_out.slice; simp only [Value.slice.injEq] at he; omega
    have k_out : out_c ≤ 9223372036854775807 := by obtain ⟨_, _, he, _, hl⟩ := h_out.slice; simp only [Value.slice.injEq, maxLen] at he hl; omega
    refine VC.rs ?_
    refine VO.y rfl (.lss rfl rfl) ?_
    refine VO.k12 0 1 4 5 6 7 8 16 23 24 25 26 ?_
    refine VC.seq ?_
    refine VC.cond rfl (fun hc6 => ?_) (fun hc6 => ?_)
    · -- FT
      refine VC.skip ?_
      refine outN ?_
      refine VC.seq ?_
      refine VC.block ?_
      refine VC.rs ?_
      obtain ⟨x7, hx7⟩ : ∃ z_, (d1)[k]? = some z_ := ⟨_, List.getElem?_eq_getElem (by exact fin0_bAppend_ok)⟩
      obtain ⟨gg7, oo7, ec7, ea7, hce7, hre7⟩ := h1.elem hx7
      cases ea7
      obtain ⟨rfl, q7_1, q7_2⟩ := open_Op (x0 := x7.1) (x1 := x7.2.1) (x2 := x7.2.2) hre7
      simp only [maxLen] at q7_1
      simp only [maxLen] at q7_2
      refine VO.y rfl (.ixI k rfl rfl tsl41 rfl (by exact fin0_bAppend_ok)) ?_
      refine VO.y rfl (.ldA 0 rfl tk40 rfl hce7) ?_
      refine VO.alloc 109 rfl tz40 (fun g8 => ?_)
      refine VO.store (k := 3) (c' := [Value.bool x7.1, str (x7.2.1), str (x7.2.2)]) 109 rfl rfl (.inl tk40) rfl rfl rfl rfl rfl ?_
      refine VO.k13 0 1 4 5 6 7 8 10 16 23 24 25 26 ?_
      refine VC.rs ?_
      refine VO.mv ?_
      refine VO.y rfl (.fa rfl tst40 rfl) ?_
      refine VO.y rfl (.ld1 109 rfl tk9 rfl (cellsAt_one rfl rfl)) ?_
      refine VO.callN 110 rfl fnOk90 rfl (fun W hW => shared_ok W last (by simp only [maxLen]; (exact fin0_bAppend_ok)) x7.2.1 (by simp only [maxLen]; (exact fin0_bAppend_ok))) (fun v10 m10 hv10 => ?_)
      subst hv10
      have hfa11 := shared_le last x7.2.1
      refine VO.as ?_
      refine VO.keep [109, 104, 0] [(109, mone g8 (.cells [Value.bool x7.1, str (x7.2.1), str (x7.2.2)].toArray 40 (0, 0))), (104, out_m), (0, wm W)] (by kernel_rfl) ?_
      refine VO.k14 0 1 4 5 6 7 8 10 11 16 23 24 25 26 ?_
      refine VC.rs ?_
      refine VO.as ?_
      refine VO.k15 0 1 4 5 6 7 8 10 11 12 16 23 24 25 26 ?_
      refine VC.seq ?_
      refine VC.rs ?_
      refine VO.y rfl (.fa rfl tst40 rfl) ?_
      refine VO.y rfl (.ld1 109 rfl tk4 rfl (cellsAt_one rfl rfl)) ?_
      refine VO.k16 0 1 4 5 6 7 8 10 11 12 16 23 24 25 26 34 ?_
      refine VC.condB rfl (fun hc12 => ?_) (fun hc12 => ?_)
      · -- FTT
        refine VC.reg ?_
        refine VO.as ?_
        refine VO.keep [109, 104, 0] [(109, mone g8 (.cells [Value.bool x7.1, str (x7.2.1), str (x7.2.2)].toArray 40 (0, 0))), (104, out_m), (0, wm W)] (by kernel_rfl) ?_
        refine VO.k16 0 1 4 5 6 7 8 10 11 12 16 23 24 25 26 34 ?_
        refine outN ?_
        refine VC.rs ?_
        refine VO.mv ?_
        refine VO.mv ?_
        refine VO.bsl (cs := [Value.int .u8 (1)]) 114 rfl rfl tsl30 tz5 rfl rfl (fun g13 => ?_)
        obtain ⟨mo15, cs15, hM15, hA15, hC15⟩ := h_out
        refine VO.app 104 rfl rfl rfl tsl30 tz5 rfl rfl hM15 hA15 (.row 114 _ _ _ 1 1 _ _ Try.underlying30 rfl (cellsAt_one rfl rfl)) (by simp [Value.oneCell']) (by simp only [maxLen]; (exact fin0_bAppend_ok)) (by exact fin0_bAppend_ok) (by decide) (fun v15 m15 hN15 => ?_)
        have ho15 : OwnL .byte m15 mnil v15 (out ++ [UInt8.ofNat 1]) := OwnL.one hC15 hN15 (rd_byteN (by exact fin0_bAppend_ok))
        obtain ⟨A15, c15, rfl, l15, k15⟩ := ho15.slice
        simp only [maxLen] at k15
        refine VO.mv ?_
        refine VO.y rfl (.cvI rfl ⟨_, Try.underlying3⟩ Try.underlying62 (IntWalk.u64_in _ (by exact fin0_bAppend_ok))) ?_
        refine VO.callN 116 rfl fnOk32 rfl (fun W hW => vAppend_ok W (OwnL.rd ho15 (hW.at (i := 104) rfl) (mle_nil _)) (shared last x7.2.1) (by exact fin0_bAppend_ok) (by exact fin0_bAppend_ok)) (fun v16 m16 hv16 => ?_)
        obtain ⟨s16_0, rfl, f16_0⟩ := hv16
        have hfa17 := venc_len (x := (shared last x7.2.1)) (by first | omega | exact or64 (by assumption) _)
        obtain ⟨A16_0, c16_0, eq16_0, l16_0, k16_0⟩ := f16_0.slice
        subst eq16_0
        simp only [maxLen] at k16_0
        refine VO.as ?_
        refine VO.k16 0 1 4 5 6 7 8 10 11 12 16 23 24 25 26 34 ?_
        refine VC.seq ?_
        refine VC.regD _ 12 [(0, true), (1, true), (2, true), (3, true), (4, true), (5, true), (6, true), (8, true), (9, true), (10, true), (11, true), (7, false)] follows (by kernel_rfl) (fun _ h => h.sub [116, 114, 109, 104, 0]) ?_
        refine VD.y rfl rfl (.inl rfl) (.mv rfl) ?_
        refine VD.y rfl rfl (.inl rfl) (.fa rfl tst40 rfl) ?_
        refine VD.y rfl rfl (.inl rfl) (.ld1 109 rfl tk9 rfl (cellsAt_one rfl rfl)) ?_
        refine VD.y rfl rfl (.inl rfl) (.lenT rfl Try.underlying9) ?_
        refine VD.y rfl rfl (.inl rfl) (.mv rfl) ?_
        refine VD.y rfl rfl (.inl rfl) (.sub rfl rfl rfl ⟨by exact fin0_bAppend_ok, by exact fin0_bAppend_ok⟩) ?_
        refine VD.y rfl rfl (.inl rfl) (.cvI (c := ((((x7.2.1.length : Nat) : Int) - ((shared last x7.2.1 : Nat) : Int)).toNat : Int)) rfl ⟨_, Try.underlying3⟩ Try.underlying62 (by rw [IntWalk.u64_in _ (by exact fin0_bAppend_ok)]; first | omega | (exact fin0_bAppend_ok))) ?_
        refine VD.y rfl rfl (.inl rfl) (.fa rfl tst40 rfl) ?_
        refine VD.y rfl rfl (.inl rfl) (.ld1 109 rfl tk9 rfl (cellsAt_one rfl rfl)) ?_
        refine VD.y rfl rfl (.inl rfl) (.mv rfl) ?_
        refine VD.y rfl rfl (.inl rfl) (.slTLI (shared last x7.2.1) rfl rfl Try.underlying9 rfl (by exact fin0_bAppend_ok)) ?_
        refine VD.callN 118 rfl rfl (.inl rfl) fnOk32 rfl (fun _ h => h.sub [116, 114, 109, 104, 0]) (fun W hW => vAppend_ok W (OwnL.rd (Ow.ownl f16_0 rfl mnil) (hW.at (i := 116) rfl) (mle_nil _)) ((((x7.2.1.length : Nat) : Int) - ((shared last x7.2.1 : Nat) : Int)).toNat) (by exact fin0_bAppend_ok) (by exact fin0_bAppend_ok)) (fun v18 m18 hv18 => ?_)
        obtain ⟨s18_0, rfl, f18_0⟩ := hv18
        have hfa19 := venc_len (x := ((((x7.2.1.length : Nat) : Int) - ((shared last x7.2.1 : Nat) : Int)).toNat)) (by first | omega | exact or64 (by assumption) _)
        obtain ⟨A18_0, c18_0, eq18_0, l18_0, k18_0⟩ := f18_0.slice
        subst eq18_0
        simp only [maxLen] at k18_0
        refine VD.nil rfl ?_ rfl
        obtain ⟨mo20, cs20, hM20, hA20, hC20⟩ := (Ow.ownl f18_0 rfl mnil)
        refine VO.app 118 rfl rfl rfl tsl30 tz5 rfl rfl hM20 hA20 (.str _ Try.underlying9 rfl) (byV_nice _) (by simp only [maxLen]; (exact fin0_bAppend_ok)) (by exact fin0_bAppend_ok) (by decide) (fun v20 m20 hN20 => ?_)
        have ho20 : OwnL .byte m20 mnil v20 ((((out ++ [UInt8.ofNat 1]) ++ venc (shared last x7.2.1)) ++ venc ((((x7.2.1.length : Nat) : Int) - ((shared last x7.2.1 : Nat) : Int)).toNat)) ++ (x7.2.1.drop (shared last x7.2.1))) := OwnL.more hC20 hN20 (rd_str _ _)
        obtain ⟨A20, c20, rfl, l20, k20⟩ := ho20.slice
        simp only [maxLen] at k20
        refine VO.as ?_
        refine VO.k16 0 1 4 5 6 7 8 10 11 12 16 23 24 25 26 34 ?_
        refine outN ?_
        refine VC.seq ?_
        refine VC.rs ?_
        refine VO.y rfl (.fa rfl tst40 rfl) ?_
        refine VO.y rfl (.ld1 109 rfl tk4 rfl (cellsAt_one rfl rfl)) ?_
        refine VO.keep [118, 109, 0] [(118, m20), (109, mone g8 (.cells [Value.bool x7.1, str (x7.2.1), str (x7.2.2)].toArray 40 (0, 0))), (0, wm W)] (by kernel_rfl) ?_
        refine VO.k17 0 1 4 5 6 7 8 10 11 12 16 23 24 25 26 34 56 ?_
        refine VC.condKT rfl hc12 ?_
        refine VC.regD _ 8 [(0, true), (1, true), (2, true), (3, true), (4, true), (6, true), (7, true), (5, false)] follows (by kernel_rfl) (fun _ h => h.sub [118, 109, 0]) ?_
        refine VD.y rfl rfl (.inl rfl) (.mv rfl) ?_
        refine VD.y rfl rfl (.inl rfl) (.fa rfl tst40 rfl) ?_
        refine VD.y rfl rfl (.inl rfl) (.ld1 109 rfl tk9 rfl (cellsAt_one rfl rfl)) ?_
        refine VD.y rfl rfl (.inl rfl) (.lenT rfl Try.underlying9) ?_
        refine VD.y rfl rfl (.inl rfl) (.cvI rfl ⟨_, Try.underlying3⟩ Try.underlying62 (IntWalk.u64_in _ (by exact fin0_bAppend_ok))) ?_
        refine VD.y rfl rfl (.inl rfl) (.fa rfl tst40 rfl) ?_
        refine VD.y rfl rfl (.inl rfl) (.ld1 109 rfl tk9 rfl (cellsAt_one rfl rfl)) ?_
        refine VD.callN 121 rfl rfl (.inl rfl) fnOk32 rfl (fun _ h => h.sub [118, 109, 0]) (fun W hW => vAppend_ok W (OwnL.rd ho20 (hW.at (i := 118) rfl) (mle_nil _)) x7.2.2.length (by exact fin0_bAppend_ok) (by exact fin0_bAppend_ok)) (fun v21 m21 hv21 => ?_)
        obtain ⟨s21_0, rfl, f21_0⟩ := hv21
        have hfa22 := venc_len (x := x7.2.2.length) (by first | omega | exact or64 (by assumption) _)
        obtain ⟨A21_0, c21_0, eq21_0, l21_0, k21_0⟩ := f21_0.slice
        subst eq21_0
        simp only [maxLen] at k21_0
        refine VD.nil rfl ?_ rfl
        obtain ⟨mo23, cs23, hM23, hA23, hC23⟩ := (Ow.ownl f21_0 rfl mnil)
        refine VO.app 121 rfl rfl rfl tsl30 tz5 rfl rfl hM23 hA23 (.str _ Try.underlying9 rfl) (byV_nice _) (by simp only [maxLen]; (exact fin0_bAppend_ok)) (by exact fin0_bAppend_ok) (by decide) (fun v23 m23 hN23 => ?_)
        have ho23 : OwnL .byte m23 mnil v23 ((((((out ++ [UInt8.ofNat 1]) ++ venc (shared last x7.2.1)) ++ venc ((((x7.2.1.length : Nat) : Int) - ((shared last x7.2.1 : Nat) : Int)).toNat)) ++ (x7.2.1.drop (shared last x7.2.1))) ++ venc x7.2.2.length) ++ x7.2.2) := OwnL.more hC23 hN23 (rd_str _ _)
        obtain ⟨A23, c23, rfl, l23, k23⟩ := ho23.slice
        simp only [maxLen] at k23
        refine VO.as ?_
        refine VO.k17 0 1 4 5 6 7 8 10 11 12 16 23 24 25 26 34 56 ?_
        refine outN ?_
        refine VC.reg ?_
        refine VO.y rfl (.fa rfl tst40 rfl) ?_
        refine VO.y rfl (.ld1 109 rfl tk9 rfl (cellsAt_one rfl rfl)) ?_
        refine VO.as ?_
        refine VO.k17 0 1 4 5 6 7 8 10 11 12 16 23 24 25 26 34 56 ?_
        refine outBN ?_
        refine outN ?_
        refine VC.reg ?_
        refine VO.y rfl (.add (c := ((k + 1 : Nat) : Int)) rfl rfl (by omega) ⟨by exact fin0_bAppend_ok, by exact fin0_bAppend_ok⟩) ?_
        refine VO.mv ?_
        refine VO.keep [121, 109, 0] [(121, m23), (109, mone g8 (.cells [Value.bool x7.1, str (x7.2.1), str (x7.2.2)].toArray 40 (0, 0))), (0, wm W)] (by kernel_rfl) ?_
        refine VO.k17 0 1 4 5 6 7 8 10 11 12 16 23 24 25 26 34 56 ?_
        exact outN ⟨⟨k + 1, x7.2.1, (((((out ++ [UInt8.ofNat 1]) ++ venc (shared last x7.2.1)) ++ venc ((((x7.2.1.length : Nat) : Int) - ((shared last x7.2.1 : Nat) : Int)).toNat)) ++ (x7.2.1.drop (shared last x7.2.1))) ++ venc x7.2.2.length) ++ x7.2.2, A23, c23, m23⟩, ⟨by omega, by exact enc_step2 he ‹d1[k]? = some _› (by first | (rw [enc_put (by assumption)]; simp only [List.append_assoc, List.cons_append, List.nil_append, List.singleton_append, Int.toNat_sub]; rfl) | (rw [enc_del (by assumption)]; simp only [List.append_assoc, List.cons_append, List.nil_append, List.singleton_append, Int.toNat_sub]; rfl)), by exact enc_len2 (last := last) hlo (by omega) ‹d1[k]? = some _› (by first | (rw [enc_put (by assumption)]; simp only [List.append_assoc, List.cons_append, List.nil_append, List.singleton_append, Int.toNat_sub]; rfl) | (rw [enc_del (by assumption)]; simp only [List.append_assoc, List.cons_append, List.nil_append, List.singleton_append, Int.toNat_sub]; rfl)), by (have ho_ := batchCheck_mem (by omega : batchCheck d1 = 0) (List.mem_of_getElem? ‹d1[k]? = some _›); have := ho_.2.1; have := ho_.2.2.1; have := encOp_len (last := last) ho_; have := (batch_len (by omega : batchCheck d1 = 0)).2; omega), ho23⟩, by exact fin0_bAppend_ok, ⟨⟨rfl, rfl, rfl, rfl, rfl, rfl, rfl, rfl, rfl, rfl, rfl, trivial⟩, fun _ h => Inv.sub (Inv.num h 121 104 rfl) [104, 0]⟩⟩
      · -- FTF
        refine VC.skip ?_
        refine outN ?_
        refine VC.rs ?_
        refine VO.mv ?_
        refine VO.mv ?_
        refine VO.bsl (cs := [Value.int .u8 (0)]) 125 rfl rfl tsl30 tz5 rfl rfl (fun g24 => ?_)
        obtain ⟨mo26, cs26, hM26, hA26, hC26⟩ := h_out
        refine VO.app 104 rfl rfl rfl tsl30 tz5 rfl rfl hM26 hA26 (.row 125 _ _ _ 1 1 _ _ Try.underlying30 rfl (cellsAt_one rfl rfl)) (by simp [Value.oneCell']) (by simp only [maxLen]; (exact fin0_bAppend_ok)) (by exact fin0_bAppend_ok) (by decide) (fun v26 m26 hN26 => ?_)
        have ho26 : OwnL .byte m26 mnil v26 (out ++ [UInt8.ofNat 0]) := OwnL.one hC26 hN26 (rd_byteN (by exact fin0_bAppend_ok))
        obtain ⟨A26, c26, rfl, l26, k26⟩ := ho26.slice
        simp only [maxLen] at k26
        refine VO.mv ?_
        refine VO.y rfl (.cvI rfl ⟨_, Try.underlying3⟩ Try.underlying62 (IntWalk.u64_in _ (by exact fin0_bAppend_ok))) ?_
        refine VO.callN 127 rfl fnOk32 rfl (fun W hW => vAppend_ok W (OwnL.rd ho26 (hW.at (i := 104) rfl) (mle_nil _)) (shared last x7.2.1) (by exact fin0_bAppend_ok) (by exact fin0_bAppend_ok)) (fun v27 m27 hv27 => ?_)
        obtain ⟨s27_0, rfl, f27_0⟩ := hv27
        have hfa28 := venc_len (x := (shared last x7.2.1)) (by first | omega | exact or64 (by assumption) _)
        obtain ⟨A27_0, c27_0, eq27_0, l27_0, k27_0⟩ := f27_0.slice
        subst eq27_0
        simp only [maxLen] at k27_0
        refine VO.as ?_
        refine VO.keep [127, 109, 0] [(127, m27), (109, mone g8 (.cells [Value.bool x7.1, str (x7.2.1), str (x7.2.2)].toArray 40 (0, 0))), (0, wm W)] (by kernel_rfl) ?_
        refine VO.k16 0 1 4 5 6 7 8 10 11 12 16 23 24 25 26 34 ?_
        refine VC.seq ?_
        refine VC.regD _ 12 [(0, true), (1, true), (2, true), (3, true), (4, true), (5, true), (6, true), (8, true), (9, true), (10, true), (11, true), (7, false)] follows (by kernel_rfl) (fun _ h => h.sub [127, 109, 0]) ?_
        refine VD.y rfl rfl (.inl rfl) (.mv rfl) ?_
        refine VD.y rfl rfl (.inl rfl) (.fa rfl tst40 rfl) ?_
        refine VD.y rfl rfl (.inl rfl) (.ld1 109 rfl tk9 rfl (cellsAt_one rfl rfl)) ?_
        refine VD.y rfl rfl (.inl rfl) (.lenT rfl Try.underlying9) ?_
        refine VD.y rfl rfl (.inl rfl) (.mv rfl) ?_
        refine VD.y rfl rfl (.inl rfl) (.sub rfl rfl rfl ⟨by exact fin0_bAppend_ok, by exact fin0_bAppend_ok⟩) ?_
        refine VD.y rfl rfl (.inl rfl) (.cvI (c := ((((x7.2.1.length : Nat) : Int) - ((shared last x7.2.1 : Nat) : Int)).toNat : Int)) rfl ⟨_, Try.underlying3⟩ Try.underlying62 (by rw [IntWalk.u64_in _ (by exact fin0_bAppend_ok)]; first | omega | (exact fin0_bAppend_ok))) ?_
        refine VD.y rfl rfl (.inl rfl) (.fa rfl tst40 rfl) ?_
        refine VD.y rfl rfl (.inl rfl) (.ld1 109 rfl tk9 rfl (cellsAt_one rfl rfl)) ?_
        refine VD.y rfl rfl (.inl rfl) (.mv rfl) ?_
        refine VD.y rfl rfl (.inl rfl) (.slTLI (shared last x7.2.1) rfl rfl Try.underlying9 rfl (by exact fin0_bAppend_ok)) ?_
        refine VD.callN 129 rfl rfl (.inl rfl) fnOk32 rfl (fun _ h => h.sub [127, 109, 0]) (fun W hW => vAppend_ok W (OwnL.rd (Ow.ownl f27_0 rfl mnil) (hW.at (i := 127) rfl) (mle_nil _)) ((((x7.2.1.length : Nat) : Int) - ((shared last x7.2.1 : Nat) : Int)).toNat) (by exact fin0_bAppend_ok) (by exact fin0_bAppend_ok)) (fun v29 m29 hv29 => ?_)
        obtain ⟨s29_0, rfl, f29_0⟩ := hv29
        have hfa30 := venc_len (x := ((((x7.2.1.length : Nat) : Int) - ((shared last x7.2.1 : Nat) : Int)).toNat)) (by first | omega | exact or64 (by assumption) _)
        obtain ⟨A29_0, c29_0, eq29_0, l29_0, k29_0⟩ := f29_0.slice
        subst eq29_0
        simp only [maxLen] at k29_0
        refine VD.nil rfl ?_ rfl
        obtain ⟨mo31, cs31, hM31, hA31, hC31⟩ := (Ow.ownl f29_0 rfl mnil)
        refine VO.app 129 rfl rfl rfl tsl30 tz5 rfl rfl hM31 hA31 (.str _ Try.underlying9 rfl) (byV_nice _) (by simp only [maxLen]; (exact fin0_bAppend_ok)) (by exact fin0_bAppend_ok) (by decide) (fun v31 m31 hN31 => ?_)
        have ho31 : OwnL .byte m31 mnil v31 ((((out ++ [UInt8.ofNat 0]) ++ venc (shared last x7.2.1)) ++ venc ((((x7.2.1.length : Nat) : Int) - ((shared last x7.2.1 : Nat) : Int)).toNat)) ++ (x7.2.1.drop (shared last x7.2.1))) := OwnL.more hC31 hN31 (rd_str _ _)
        obtain ⟨A31, c31, rfl, l31, k31⟩ := ho31.slice
        simp only [maxLen] at k31
        refine VO.as ?_
        refine VO.k16 0 1 4 5 6 7 8 10 11 12 16 23 24 25 26 34 ?_
        refine outN ?_
        refine VC.seq ?_
        refine VC.rs ?_
        refine VO.y rfl (.fa rfl tst40 rfl) ?_
        refine VO.y rfl (.ld1 109 rfl tk4 rfl (cellsAt_one rfl rfl)) ?_
        refine VO.k17 0 1 4 5 6 7 8 10 11 12 16 23 24 25 26 34 56 ?_
        refine VC.condKF rfl hc12 ?_
        refine VC.skip ?_
        refine outN ?_
        refine VC.reg ?_
        refine VO.y rfl (.fa rfl tst40 rfl) ?_
        refine VO.y rfl (.ld1 109 rfl tk9 rfl (cellsAt_one rfl rfl)) ?_
        refine VO.as ?_
        refine VO.keep [129, 109, 0] [(129, m31), (109, mone g8 (.cells [Value.bool x7.1, str (x7.2.1), str (x7.2.2)].toArray 40 (0, 0))), (0, wm W)] (by kernel_rfl) ?_
        refine VO.k17 0 1 4 5 6 7 8 10 11 12 16 23 24 25 26 34 56 ?_
        refine outBN ?_
        refine outN ?_
        refine VC.reg ?_
        refine VO.y rfl (.add (c := ((k + 1 : Nat) : Int)) rfl rfl (by omega) ⟨by exact fin0_bAppend_ok, by exact fin0_bAppend_ok⟩) ?_
        refine VO.mv ?_
        refine VO.k17 0 1 4 5 6 7 8 10 11 12 16 23 24 25 26 34 56 ?_
        exact outN ⟨⟨k + 1, x7.2.1, (((out ++ [UInt8.ofNat 0]) ++ venc (shared last x7.2.1)) ++ venc ((((x7.2.1.length : Nat) : Int) - ((shared last x7.2.1 : Nat) : Int)).toNat)) ++ (x7.2.1.drop (shared last x7.2.1)), A31, c31, m31⟩, ⟨by omega, by exact enc_step2 he ‹d1[k]? = some _› (by first | (rw [enc_put (by assumption)]; simp only [List.append_assoc, List.cons_append, List.nil_append, List.singleton_append, Int.toNat_sub]; rfl) | (rw [enc_del (by assumption)]; simp only [List.append_assoc, List.cons_append, List.nil_append, List.singleton_append, Int.toNat_sub]; rfl)), by exact enc_len2 (last := last) hlo (by omega) ‹d1[k]? = some _› (by first | (rw [enc_put (by assumption)]; simp only [List.append_assoc, List.cons_append, List.nil_append, List.singleton_append, Int.toNat_sub]; rfl) | (rw [enc_del (by assumption)]; simp only [List.append_assoc, List.cons_append, List.nil_append, List.singleton_append, Int.toNat_sub]; rfl)), by (have ho_ := batchCheck_mem (by omega : batchCheck d1 = 0) (List.mem_of_getElem? ‹d1[k]? = some _›); have := ho_.2.1; have := ho_.2.2.1; have := encOp_len (last := last) ho_; have := (batch_len (by omega : batchCheck d1 = 0)).2; omega), ho31⟩, by exact fin0_bAppend_ok, ⟨⟨rfl, rfl, rfl, rfl, rfl, rfl, rfl, rfl, rfl, rfl, rfl, trivial⟩, fun _ h => Inv.sub (Inv.num h 129 104 rfl) [104, 0]⟩⟩
    · -- FF
      refine VC.exit ?_
      refine outE ?_
      refine outE ?_
      refine outBB ?_
      refine outN ?_
      refine VC.rs ?_
      refine VO.mv ?_
      refine VO.as ?_
      refine VO.as ?_
      refine VO.k12 0 1 4 5 6 7 8 16 23 24 25 26 ?_
      refine VC.ret ?_
      refine ⟨_, _, res_run (rs := [.tmp 4, .tmp 5]) rfl (.tmp rfl (.tmp rfl .nil)), fun W_ hI => out_of (l := [out_m]) hI [104] rfl rfl (mle_refl _) (fun hS_ => ?_)⟩
      dsimp only [packV]
      have he0 : ((bAppend d0 d1).1 : Ty.Den (.sl .byte)) = out := by first | rfl | (first | (rw [bAppend_bad ‹_›] <;> rfl) | (rw [bAppend_good (by omega)]; dsimp only; rw [← he, List.drop_of_length_le (by omega)]; simp [encOps]))
      refine ⟨Value.slice out_A (out.length) (out_c), ?_, ?_⟩
      rotate_left
      · rw [he0]; exact (Ow.up (OwnL.ow h_out rfl) (hS_.1 _ (.head _)))
      all_goals (first | rfl | (first | (rw [bAppend_bad ‹_›] <;> rfl) | (rw [bAppend_good (by omega)] <;> rfl)))
end
end Go.Proofs.Ytcikgnbpcombpaa
