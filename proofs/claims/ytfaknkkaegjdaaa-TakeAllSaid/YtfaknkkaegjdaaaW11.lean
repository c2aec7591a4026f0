/- Walks, printed by program: what api Op, batch Same, commit Same, lagleashkit CopyCommit, lagleashkit CopyCommits, lagleashlaw18 TakeTwice compute. Conditions: those named in each theorem. -/
import Derived.Test.YtfaknkkaegjdaaaW9
import Derived.Test.YtfaknkkaegjdaaaW8
import Derived.Test.YtfaknkkaegjdaaaSpec6
set_option linter.unusedVariables false
set_option linter.unusedSimpArgs false
set_option maxRecDepth 4000
namespace Go.Proofs.Ytfaknkkaegjdaaa
theorem fnOk103 : fnOk Try.prog 103 = true := by kernel_rfl
theorem fnOk110 : fnOk Try.prog 110 = true := by kernel_rfl
theorem fnOk41 : fnOk Try.prog 41 = true := by kernel_rfl
theorem fnOk56 : fnOk Try.prog 56 = true := by kernel_rfl
theorem fnOk62 : fnOk Try.prog 62 = true := by kernel_rfl
theorem fnOk82 : fnOk Try.prog 82 = true := by kernel_rfl
theorem eqOps_ok (W : World) {v0 : Value} {d0 : List DOp} (h0 : Rd (.sl TOp) (wm W) [v0] d0) {v1 : Value} {d1 : List DOp} (h1 : Rd (.sl TOp) (wm W) [v1] d1) : CallR Try.prog 103 [v0, v1] W (mnil) (fun v m' => v = .bool (decide (d0 = d1))) := by
  obtain ⟨A0, c0, rfl, l0, k0⟩ := h0.slice
  simp only [maxLen] at k0
  obtain ⟨A1, c1, rfl, l1, k1⟩ := h1.slice
  simp only [maxLen] at k1
  refine CallR.ofA (n := 26) Try.func103 rfl rfl rfl ?_
  refine VC.rs ?_
  refine VO.y rfl (.as rfl) ?_
  refine VO.esub [(0, _), (1, _), (4, _)] ⟨rfl, rfl, rfl, trivial⟩ (VO.nil ?_)
  refine VC.seq ?_
  refine VC.rs ?_
  refine VO.y rfl (.mv rfl) ?_
  refine VO.y rfl (.lenS rfl tsl22) ?_
  refine VO.y rfl (.mv rfl) ?_
  refine VO.y rfl (.lenS rfl tsl22) ?_
  refine VO.y rfl (.neq rfl rfl) ?_
  refine VO.esub [(0, _), (1, _), (4, _), (10, _)] ⟨rfl, rfl, rfl, rfl, trivial⟩ (VO.nil ?_)
  refine VC.cond rfl (fun hc1 => ?_) (fun hc1 => ?_)
  · -- T
    refine VC.rs ?_
    refine VO.y rfl (.as rfl) ?_
    refine VO.esub [(0, _), (1, _), (4, _), (10, _)] ⟨rfl, rfl, rfl, rfl, trivial⟩ (VO.nil ?_)
    refine VC.ret ?_
    refine outR ?_
    refine ⟨_, _, res_run (rs := [.tmp 4]) rfl (.tmp rfl .nil), fun W_ hI => out_of (l := []) hI [] rfl rfl (mle_refl _) (fun hS_ => ?_)⟩
    dsimp only [packV]
    all_goals (first | rfl | (simp [len_ne hc1]))
  · -- F
    refine VC.skip ?_
    refine outN ?_
    refine VC.seq ?_
    refine VC.rs ?_
    refine VO.y rfl (.mv rfl) ?_
    refine VO.y rfl (.lenS rfl tsl22) ?_
    refine VO.y rfl (.mv rfl) ?_
    refine VO.esub [(0, _), (1, _), (4, _), (10, _), (12, _), (13, _)] ⟨rfl, rfl, rfl, rfl, rfl, rfl, trivial⟩ (VO.nil ?_)
    refine VC.block ?_
    refine VC.loop (G := Nat) (fun k => [(13, Value.int .i64 (((k : Nat) : Int))), (0, Value.slice A0 (d0.length) (c0)), (1, Value.slice A1 (d1.length) (c1)), (10, Value.bool (decide (¬ ((d0.length : Nat) : Int) = ((d1.length : Nat) : Int)))), (12, Value.int .i64 (((d0.length : Nat) : Int)))]) (fun k => [(0, wm W)]) (fun k => (k ≤ d0.length) ∧ (d0.take k = d1.take k)) (fun k => d0.length - k) 0 (⟨by omega, by rfl⟩) ⟨⟨rfl, rfl, rfl, rfl, rfl, trivial⟩, fun _ h => h.sub [0]⟩ ?_
    rintro k ⟨hk, ht⟩
    refine VC.rs ?_
    refine VO.y rfl (.lss rfl rfl) ?_
    refine VO.esub [(0, _), (1, _), (10, _), (12, _), (13, _), (14, _)] ⟨rfl, rfl, rfl, rfl, rfl, rfl, trivial⟩ (VO.nil ?_)
    refine VC.seq ?_
    refine VC.cond rfl (fun hc2 => ?_) (fun hc2 => ?_)
    · -- FT
      refine VC.skip ?_
      refine outN ?_
      refine VC.seq ?_
      refine VC.block ?_
      refine VC.rs ?_
      refine VO.y rfl (.mv rfl) ?_
      refine VO.y rfl (.as rfl) ?_
      refine VO.esub [(0, _), (1, _), (5, _), (10, _), (12, _), (13, _), (14, _)] ⟨rfl, rfl, rfl, rfl, rfl, rfl, rfl, trivial⟩ (VO.nil ?_)
      refine VC.seq ?_
      refine VC.regD _ 8 [(0, true), (1, true), (2, true), (3, true), (4, true), (5, true), (6, true), (7, true)] follows (by kernel_rfl) (fun _ h => h.sub [0]) ?_
      refine VD.y rfl rfl (.inl rfl) (.mv rfl) ?_
      refine VD.y rfl rfl (.inl rfl) (.mv rfl) ?_
      obtain ⟨x3, hx3⟩ : ∃ x, (d0)[k]? = some x := ⟨_, List.getElem?_eq_getElem (by first | omega | (simp only [List.length_append, List.length_nil, List.length_cons, List.length_take, List.length_drop] at *; omega))⟩
      obtain ⟨gg3, oo3, ec3, ea3, hce3, hre3⟩ := h0.elem hx3
      cases ea3
      obtain ⟨rfl, q3_1, q3_2⟩ := open_Op (x0 := x3.1) (x1 := x3.2.1) (x2 := x3.2.2) hre3
      simp only [maxLen] at q3_1
      simp only [maxLen] at q3_2
      refine VD.y rfl rfl (.inl rfl) (.ixI k rfl rfl tsl22 rfl (by first | omega | (simp only [List.length_append, List.length_nil, List.length_cons, List.length_take, List.length_drop] at *; omega))) ?_
      refine VD.y rfl rfl (.inl rfl) (.ldA 0 rfl tk49 rfl hce3) ?_
      refine VD.y rfl rfl (.inl rfl) (.mv rfl) ?_
      refine VD.y rfl rfl (.inl rfl) (.mv rfl) ?_
      obtain ⟨x4, hx4⟩ : ∃ x, (d1)[k]? = some x := ⟨_, List.getElem?_eq_getElem (by first | omega | (simp only [List.length_append, List.length_nil, List.length_cons, List.length_take, List.length_drop] at *; omega))⟩
      obtain ⟨gg4, oo4, ec4, ea4, hce4, hre4⟩ := h1.elem hx4
      cases ea4
      obtain ⟨rfl, q4_1, q4_2⟩ := open_Op (x0 := x4.1) (x1 := x4.2.1) (x2 := x4.2.2) hre4
      simp only [maxLen] at q4_1
      simp only [maxLen] at q4_2
      refine VD.y rfl rfl (.inl rfl) (.ixI k rfl rfl tsl22 rfl (by first | omega | (simp only [List.length_append, List.length_nil, List.length_cons, List.length_take, List.length_drop] at *; omega))) ?_
      refine VD.y rfl rfl (.inl rfl) (.ldA 0 rfl tk49 rfl hce4) ?_
      refine VD.nil rfl ?_ rfl
      refine VO.y rfl (.stneq (p := x3.1 = x4.1 ∧ x3.2.1 = x4.2.1 ∧ x3.2.2 = x4.2.2) rfl rfl (teq49 x3.1 x3.2.1 x3.2.2) (teq49 x4.1 x4.2.1 x4.2.2) (by simp [ceq, ba_toList])) ?_
      refine VO.esub [(0, _), (1, _), (5, _), (10, _), (12, _), (13, _), (14, _), (24, _)] ⟨rfl, rfl, rfl, rfl, rfl, rfl, rfl, rfl, trivial⟩ (VO.nil ?_)
      refine outN ?_
      refine VC.cond rfl (fun hc5 => ?_) (fun hc5 => ?_)
      · -- FTT
        refine VC.rs ?_
        refine VO.y rfl (.as rfl) ?_
        refine VO.esub [(0, _), (1, _), (4, _), (5, _), (10, _), (12, _), (13, _), (14, _), (24, _)] ⟨rfl, rfl, rfl, rfl, rfl, rfl, rfl, rfl, rfl, trivial⟩ (VO.nil ?_)
        refine VC.ret ?_
        refine outBR ?_
        refine outR ?_
        refine outR ?_
        refine outBR ?_
        refine outR ?_
        refine ⟨_, _, res_run (rs := [.tmp 4]) rfl (.tmp rfl .nil), fun W_ hI => out_of (l := []) hI [] rfl rfl (mle_refl _) (fun hS_ => ?_)⟩
        dsimp only [packV]
        all_goals (first | rfl | (simp [get_ne ‹d0[k]? = some _› ‹d1[k]? = some _› (op_ne ‹_›)]))
      · -- FTF
        refine VC.skip ?_
        refine outBN ?_
        refine outN ?_
        refine VC.reg ?_
        refine VO.y rfl (.add (c := ((k + 1 : Nat) : Int)) rfl rfl (by omega) ⟨by first | omega | (simp only [List.length_append, List.length_nil, List.length_cons, List.length_take, List.length_drop] at *; omega), by first | omega | (simp only [List.length_append, List.length_nil, List.length_cons, List.length_take, List.length_drop] at *; omega)⟩) ?_
        refine VO.y rfl (.mv rfl) ?_
        refine VO.esub [(0, _), (1, _), (5, _), (10, _), (12, _), (13, _), (14, _), (24, _)] ⟨rfl, rfl, rfl, rfl, rfl, rfl, rfl, rfl, trivial⟩ (VO.nil ?_)
        exact outN ⟨k + 1, ⟨by omega, by exact take_next ht ‹d0[k]? = some _› ‹d1[k]? = some _› (op_eq (by simpa using ‹¬ ¬ _›))⟩, by first | omega | (simp only [List.length_append, List.length_nil, List.length_cons, List.length_take, List.length_drop] at *; omega), ⟨⟨rfl, rfl, rfl, rfl, rfl, trivial⟩, fun _ h => Inv.sub h [0]⟩⟩
    · -- FF
      refine VC.exit ?_
      refine outE ?_
      refine outE ?_
      refine outBB ?_
      refine outN ?_
      refine VC.rs ?_
      refine VO.y rfl (.as rfl) ?_
      refine VO.esub [(0, _), (1, _), (4, _), (10, _), (12, _), (13, _), (14, _)] ⟨rfl, rfl, rfl, rfl, rfl, rfl, rfl, trivial⟩ (VO.nil ?_)
      refine VC.ret ?_
      refine ⟨_, _, res_run (rs := [.tmp 4]) rfl (.tmp rfl .nil), fun W_ hI => out_of (l := []) hI [] rfl rfl (mle_refl _) (fun hS_ => ?_)⟩
      dsimp only [packV]
      all_goals (first | rfl | (simp [take_all ht (by omega) (by omega)]))
theorem bSame_ok (W : World) {v0 : Value} {d0 : List DOp} (h0 : Rd (.sl TOp) (wm W) [v0] d0) {v1 : Value} {d1 : List DOp} (h1 : Rd (.sl TOp) (wm W) [v1] d1) : CallR Try.prog 41 [v0, v1] W (mnil) (fun v m' => v = .bool (decide (d0 = d1))) := by
  obtain ⟨A0, c0, rfl, l0, k0⟩ := h0.slice
  simp only [maxLen] at k0
  obtain ⟨A1, c1, rfl, l1, k1⟩ := h1.slice
  simp only [maxLen] at k1
  refine CallR.ofA (n := 8) Try.func41 rfl rfl rfl ?_
  refine VC.rs ?_
  refine VO.y rfl (.as rfl) ?_
  refine VO.esub [(0, _), (1, _), (4, _)] ⟨rfl, rfl, rfl, trivial⟩ (VO.nil ?_)
  refine VC.rs ?_
  refine VO.y rfl (.mv rfl) ?_
  refine VO.y rfl (.mv rfl) ?_
  refine VO.callN 101 rfl fnOk103 rfl (fun W hW => eqOps_ok W (Rd.mono h0 (hW.at (i := 0) rfl)) (Rd.mono h1 (hW.at (i := 0) rfl))) (fun v1 m1 hv1 => ?_)
  subst hv1
  refine VO.y rfl (.as rfl) ?_
  refine VO.esub [(0, _), (1, _), (4, _)] ⟨rfl, rfl, rfl, trivial⟩ (VO.nil ?_)
  refine VC.ret ?_
  refine ⟨_, _, res_run (rs := [.tmp 4]) rfl (.tmp rfl .nil), fun W_ hI => out_of (l := []) hI [] rfl rfl (mle_refl _) (fun hS_ => ?_)⟩
  dsimp only [packV]
  all_goals (first | rfl | (simp [*]; done))
theorem cSame_ok (W : World) {v0 : List Value} {d0 : DCommit} (h0 : Rd TCommit (wm W) v0 d0) {v1 : List Value} {d1 : DCommit} (h1 : Rd TCommit (wm W) v1 d1) : CallR Try.prog 62 [.agg v0.toArray, .agg v1.toArray] W (mnil) (fun v m' => v = .bool (decide (d0 = d1))) := by
  obtain ⟨p0_A2, p0_c2, rfl, p0_0, p0_1, p0_2⟩ := open_Commit (x0 := d0.1) (x1 := d0.2.1) (x2 := d0.2.2) h0
  simp only [inK] at p0_0
  simp only [inK] at p0_1
  have p0_r2 := Rd.room p0_2
  obtain ⟨p1_A2, p1_c2, rfl, p1_0, p1_1, p1_2⟩ := open_Commit (x0 := d1.1) (x1 := d1.2.1) (x2 := d1.2.2) h1
  simp only [inK] at p1_0
  simp only [inK] at p1_1
  have p1_r2 := Rd.room p1_2
  refine CallR.ofA (n := 24) Try.func62 rfl rfl rfl ?_
  refine VC.rs ?_
  refine VO.box (cs := [Value.int .i64 (d0.1), Value.int .i64 (d0.2.1), Value.slice p0_A2 (d0.2.2.length) (p0_c2)]) 102 rfl rfl rfl (fun g1 => ?_)
  refine VO.box (cs := [Value.int .i64 (d1.1), Value.int .i64 (d1.2.1), Value.slice p1_A2 (d1.2.2.length) (p1_c2)]) 104 rfl rfl rfl (fun g3 => ?_)
  refine VO.y rfl (.as rfl) ?_
  refine VO.esub [(0, _), (1, _), (2, _), (3, _), (4, _)] ⟨rfl, rfl, rfl, rfl, rfl, trivial⟩ (VO.nil ?_)
  refine VC.rs ?_
  refine VO.y rfl (.fa rfl tst52 rfl) ?_
  refine VO.y rfl (.ld1 102 rfl tk3 rfl (cellsAt_one rfl rfl)) ?_
  refine VO.y rfl (.fa rfl tst52 rfl) ?_
  refine VO.y rfl (.ld1 104 rfl tk3 rfl (cellsAt_one rfl rfl)) ?_
  refine VO.y rfl (.eql rfl rfl) ?_
  refine VO.y rfl (.mv rfl) ?_
  refine VO.dec (t := 10) rfl (fun hc5 => ?_) (fun hc5 => ?_)
  · -- T
    refine VO.gy rfl ⟨_, rfl, rfl⟩ (.fa rfl tst52 rfl) ?_
    refine VO.gy rfl ⟨_, rfl, rfl⟩ (.ld1 102 rfl tk3 rfl (cellsAt_one rfl rfl)) ?_
    refine VO.gy rfl ⟨_, rfl, rfl⟩ (.fa rfl tst52 rfl) ?_
    refine VO.gy rfl ⟨_, rfl, rfl⟩ (.ld1 104 rfl tk3 rfl (cellsAt_one rfl rfl)) ?_
    refine VO.gy rfl ⟨_, rfl, rfl⟩ (.eql rfl rfl) ?_
    refine VO.y rfl (.pT rfl rfl) ?_
    refine VO.y rfl (.mv rfl) ?_
    refine VO.dec (t := 17) rfl (fun hc6 => ?_) (fun hc6 => ?_)
    · -- TT
      refine VO.gy rfl ⟨_, rfl, rfl⟩ (.fa rfl tst52 rfl) ?_
      refine VO.gy rfl ⟨_, rfl, rfl⟩ (.ld1 102 rfl tk22 rfl (cellsAt_one rfl rfl)) ?_
      refine VO.gy rfl ⟨_, rfl, rfl⟩ (.fa rfl tst52 rfl) ?_
      refine VO.gy rfl ⟨_, rfl, rfl⟩ (.ld1 104 rfl tk22 rfl (cellsAt_one rfl rfl)) ?_
      refine VO.gcallN 107 rfl ⟨_, rfl, rfl⟩ fnOk41 rfl (fun W hW => bSame_ok W (Rd.mono p0_2 (hW.at (i := 0) rfl)) (Rd.mono p1_2 (hW.at (i := 0) rfl))) (fun v7 m7 hv7 => ?_)
      subst hv7
      refine VO.y rfl (.pT rfl rfl) ?_
      refine VO.y rfl (.as rfl) ?_
      refine VO.esub [(0, _), (1, _), (2, _), (3, _), (4, _)] ⟨rfl, rfl, rfl, rfl, rfl, trivial⟩ (VO.nil ?_)
      refine VC.ret ?_
      refine ⟨_, _, res_run (rs := [.tmp 4]) rfl (.tmp rfl .nil), fun W_ hI => out_of (l := []) hI [] rfl rfl (mle_refl _) (fun hS_ => ?_)⟩
      dsimp only [packV]
      all_goals (first | rfl | (first | exact congrArg Value.bool (decide_eq_false (fun e => by subst e; exact absurd rfl ‹¬ _ = _›)).symm | exact congrArg Value.bool (decide_eq_decide.2 ⟨fun h => commit_ext ‹_› ‹_› h, fun e => by rw [e]⟩)))
    · -- TF
      refine VO.gn rfl (.inl ⟨_, rfl, rfl⟩) ?_
      refine VO.gn rfl (.inl ⟨_, rfl, rfl⟩) ?_
      refine VO.gn rfl (.inl ⟨_, rfl, rfl⟩) ?_
      refine VO.gn rfl (.inl ⟨_, rfl, rfl⟩) ?_
      refine VO.gn rfl (.inl ⟨_, rfl, rfl⟩) ?_
      refine VO.y rfl (.pF rfl rfl) ?_
      refine VO.y rfl (.as rfl) ?_
      refine VO.esub [(0, _), (1, _), (2, _), (3, _), (4, _)] ⟨rfl, rfl, rfl, rfl, rfl, trivial⟩ (VO.nil ?_)
      refine VC.ret ?_
      refine ⟨_, _, res_run (rs := [.tmp 4]) rfl (.tmp rfl .nil), fun W_ hI => out_of (l := []) hI [] rfl rfl (mle_refl _) (fun hS_ => ?_)⟩
      dsimp only [packV]
      all_goals (first | rfl | (first | exact congrArg Value.bool (decide_eq_false (fun e => by subst e; exact absurd rfl ‹¬ _ = _›)).symm | exact congrArg Value.bool (decide_eq_decide.2 ⟨fun h => commit_ext ‹_› ‹_› h, fun e => by rw [e]⟩)))
  · -- F
    refine VO.gn rfl (.inl ⟨_, rfl, rfl⟩) ?_
    refine VO.gn rfl (.inl ⟨_, rfl, rfl⟩) ?_
    refine VO.gn rfl (.inl ⟨_, rfl, rfl⟩) ?_
    refine VO.gn rfl (.inl ⟨_, rfl, rfl⟩) ?_
    refine VO.gn rfl (.inl ⟨_, rfl, rfl⟩) ?_
    refine VO.y rfl (.pF rfl rfl) ?_
    refine VO.y rfl (.mv rfl) ?_
    refine VO.gn rfl (.inl ⟨_, rfl, rfl⟩) ?_
    refine VO.gn rfl (.inl ⟨_, rfl, rfl⟩) ?_
    refine VO.gn rfl (.inl ⟨_, rfl, rfl⟩) ?_
    refine VO.gn rfl (.inl ⟨_, rfl, rfl⟩) ?_
    refine VO.gn rfl (.inl ⟨_, rfl, rfl⟩) ?_
    refine VO.y rfl (.pF rfl rfl) ?_
    refine VO.y rfl (.as rfl) ?_
    refine VO.esub [(0, _), (1, _), (2, _), (3, _), (4, _)] ⟨rfl, rfl, rfl, rfl, rfl, trivial⟩ (VO.nil ?_)
    refine VC.ret ?_
    refine ⟨_, _, res_run (rs := [.tmp 4]) rfl (.tmp rfl .nil), fun W_ hI => out_of (l := []) hI [] rfl rfl (mle_refl _) (fun hS_ => ?_)⟩
    dsimp only [packV]
    all_goals (first | rfl | (first | exact congrArg Value.bool (decide_eq_false (fun e => by subst e; exact absurd rfl ‹¬ _ = _›)).symm | exact congrArg Value.bool (decide_eq_decide.2 ⟨fun h => commit_ext ‹_› ‹_› h, fun e => by rw [e]⟩)))
theorem CopyCommit_ok (W : World) {v0 : List Value} {d0 : DCommit} (h0 : Rd TCommit (wm W) v0 d0) (e0 : d0.2.2.length ≤ 3518437208000) : CallR Try.prog 110 [.agg v0.toArray] W (mnil) (fun v m' => ∃ (s0 : List Value), v = .agg s0.toArray ∧ Ow TCommit m' s0 (d0)) := by
  obtain ⟨p0_A2, p0_c2, rfl, p0_0, p0_1, p0_2⟩ := open_Commit (x0 := d0.1) (x1 := d0.2.1) (x2 := d0.2.2) h0
  simp only [inK] at p0_0
  simp only [inK] at p0_1
  have p0_r2 := Rd.room p0_2
  refine CallR.ofA (n := 11) Try.func110 rfl rfl rfl ?_
  refine VC.rs ?_
  refine VO.box (cs := [Value.int .i64 (d0.1), Value.int .i64 (d0.2.1), Value.slice p0_A2 (d0.2.2.length) (p0_c2)]) 102 rfl rfl rfl (fun g1 => ?_)
  refine VO.alloc 104 rfl tz52 (fun g3 => ?_)
  refine VO.esub [(0, _), (1, _), (2, _)] ⟨rfl, rfl, rfl, trivial⟩ (VO.nil ?_)
  refine VC.seq ?_
  refine VC.regD _ 7 [(0, true), (1, true), (2, true), (3, true), (4, true), (5, true), (6, false)] follows (by kernel_rfl) (fun _ h => h.sub [104, 102, 0]) ?_
  refine VD.y rfl rfl (.inl rfl) (.fa rfl tst52 rfl) ?_
  refine VD.y rfl rfl (.inl rfl) (.ld1 102 rfl tk3 rfl (cellsAt_one rfl rfl)) ?_
  refine VD.y rfl rfl (.inl rfl) (.fa rfl tst52 rfl) ?_
  refine VD.y rfl rfl (.inl rfl) (.ld1 102 rfl tk3 rfl (cellsAt_one rfl rfl)) ?_
  refine VD.y rfl rfl (.inl rfl) (.fa rfl tst52 rfl) ?_
  refine VD.y rfl rfl (.inl rfl) (.ld1 102 rfl tk22 rfl (cellsAt_one rfl rfl)) ?_
  refine VD.callN 105 rfl rfl (.inl rfl) fnOk96 rfl (fun _ h => h.sub [104, 102, 0]) (fun W hW => CopyOps_ok W (Rd.mono p0_2 (hW.at (i := 0) rfl)) (by first | omega | (simp only [List.length_append, List.length_nil, List.length_cons, List.length_take, List.length_drop] at *; omega))) (fun v5 m5 hv5 => ?_)
  obtain ⟨s5_0, rfl, f5_0⟩ := hv5
  obtain ⟨A5_0, c5_0, eq5_0, l5_0, k5_0⟩ := f5_0.slice
  subst eq5_0
  simp only [maxLen] at k5_0
  refine VD.nil rfl ?_ rfl
  refine VO.y rfl (.bst (cs := [Value.int .i64 (d0.1), Value.int .i64 (d0.2.1), Value.slice A5_0 (d0.2.2.length) (c5_0)]) rfl tst52 tz52 rfl) ?_
  refine VO.store (k := 3) (c' := [Value.int .i64 (d0.1), Value.int .i64 (d0.2.1), Value.slice A5_0 (d0.2.2.length) (c5_0)]) 104 rfl rfl (.inl tk52) rfl rfl rfl rfl rfl ?_
  refine VO.esub [(0, _), (1, _), (2, _)] ⟨rfl, rfl, rfl, trivial⟩ (VO.nil ?_)
  refine outN ?_
  refine VC.ret ?_
  refine ⟨_, _, res_run (rs := [.cell 2 52]) rfl (.agg 104 rfl tk52 rfl ⟨_, _, _, mone_self _ _, Nat.le_of_ble_eq_true rfl, rfl⟩ .nil), fun W_ hI => out_of (l := [m5]) hI [105] rfl rfl (mle_refl _) (fun hS_ => ?_)⟩
  dsimp only [packV]
  have he0 : (d0 : Ty.Den TCommit) = d0 := by first | rfl | (simp [*]; done)
  refine ⟨[Value.int .i64 (d0.1), Value.int .i64 (d0.2.1), Value.slice A5_0 (d0.2.2.length) (c5_0)], ?_, ?_⟩
  rotate_left
  · rw [he0]; exact (show Ow TCommit _ _ d0 from (mkO_Commit d0.1 d0.2.1 d0.2.2 hS_ (by simp only [inK]; (first | omega | (simp only [List.length_append, List.length_nil, List.length_cons, List.length_take, List.length_drop] at *; omega))) (by simp only [inK]; (first | omega | (simp only [List.length_append, List.length_nil, List.length_cons, List.length_take, List.length_drop] at *; omega))) (OwnL.ow (Ow.ownl f5_0 rfl mnil) rfl)))
  all_goals (first | rfl | (simp [*]; done))
theorem CopyCommits_ok (W : World) {v0 : Value} {d0 : List DCommit} (h0 : Rd (.sl TCommit) (wm W) [v0] d0) (e0 : d0.length ≤ 3518437200000) (e1 : ∀ c ∈ d0, c.2.2.length ≤ 3518437208000) : CallR Try.prog 56 [v0] W (mnil) (fun v m' => ∃ (s0 : Value), v = s0 ∧ Ow (.sl TCommit) m' [s0] (d0)) := by
  obtain ⟨A0, c0, rfl, l0, k0⟩ := h0.slice
  simp only [maxLen] at k0
  refine CallR.ofA (n := 20) Try.func56 rfl rfl rfl ?_
  refine VC.rs ?_
  refine VO.y rfl (.as rfl) ?_
  refine VO.esub [(0, _), (2, _)] ⟨rfl, rfl, trivial⟩ (VO.nil ?_)
  refine VC.rs ?_
  refine VO.y rfl (.as rfl) ?_
  refine VO.esub [(0, _), (2, _), (3, _)] ⟨rfl, rfl, rfl, trivial⟩ (VO.nil ?_)
  refine VC.seq ?_
  refine VC.rs ?_
  refine VO.y rfl (.as rfl) ?_
  refine VO.esub [(0, _), (2, _), (3, _), (4, _)] ⟨rfl, rfl, rfl, rfl, trivial⟩ (VO.nil ?_)
  refine VC.block ?_
  refine VC.inv ((101, mnil) :: _) (fun _ h => h.nilc 101) ?_
  refine VC.loop (G := Nat × (List DCommit) × (Option Addr) × Nat × Mem) (fun g => [(3, Value.slice (g.2.2.1) ((g.2.1).length) ((g.2.2.2.1))), (4, Value.int .i64 ((((g.1) : Nat) : Int))), (0, Value.slice A0 (d0.length) (c0)), (2, Value.slice none (0) (0))]) (fun g => [(101, (g.2.2.2.2)), (0, wm W)]) (fun g => ((g.1) ≤ d0.length) ∧ ((g.2.1) = d0.take (g.1)) ∧ (Ow (.sl TCommit) (g.2.2.2.2) [.slice (g.2.2.1) (g.2.1).length (g.2.2.2.1)] (g.2.1))) (fun g => d0.length - (g.1)) (0, [], none, 0, mnil) (⟨by omega, by rfl, (Ow.nil TCommit mnil)⟩) ⟨⟨rfl, rfl, rfl, rfl, trivial⟩, fun _ h => h.sub [101, 0]⟩ ?_
  rintro ⟨k, out, out_A, out_c, out_m⟩ ⟨hk, ho, h_out⟩
  replace hk : k ≤ d0.length := hk
  replace ho : out = d0.take k := ho
  replace h_out : Ow (.sl TCommit) out_m [.slice out_A out.length out_c] out := h_out
  show VC _ _ _ _ _ [(3, Value.slice out_A (out.length) (out_c)), (4, Value.int .i64 (((k : Nat) : Int))), (0, Value.slice A0 (d0.length) (c0)), (2, Value.slice none (0) (0))] [(101, out_m), (0, wm W)]
  have l_out : out.length ≤ out_c := by obtain ⟨_, _, he, hl, _⟩ := h_out.slice; simp only [Value.slice.injEq] at he; omega
  have k_out : out_c ≤ 9223372036854775807 := by obtain ⟨_, _, he, _, hl⟩ := h_out.slice; simp only [Value.slice.injEq, maxLen] at he hl; omega
  have hlo : out.length ≤ k := by rw [ho]; simp; omega
  refine VC.seq ?_
  refine VC.rs ?_
  refine VO.y rfl (.mv rfl) ?_
  refine VO.y rfl (.mv rfl) ?_
  refine VO.y rfl (.lenS rfl tsl61) ?_
  refine VO.y rfl (.lss rfl rfl) ?_
  refine VO.esub [(0, _), (2, _), (3, _), (4, _), (8, _)] ⟨rfl, rfl, rfl, rfl, rfl, trivial⟩ (VO.nil ?_)
  refine VC.cond rfl (fun hc2 => ?_) (fun hc2 => ?_)
  · -- T
    refine VC.skip ?_
    refine outN ?_
    refine VC.seq ?_
    refine VC.block ?_
    refine VC.reg ?_
    refine VO.y rfl (.mv rfl) ?_
    refine VO.y rfl (.mv rfl) ?_
    refine VO.y rfl (.mv rfl) ?_
    obtain ⟨x3, hx3⟩ : ∃ x, (d0)[k]? = some x := ⟨_, List.getElem?_eq_getElem (by first | omega | (simp only [List.length_append, List.length_nil, List.length_cons, List.length_take, List.length_drop] at *; omega) | exact e1 _ (List.mem_of_getElem? ‹d0[_]? = some _›))⟩
    obtain ⟨gg3, oo3, ec3, ea3, hce3, hre3⟩ := h0.elem hx3
    cases ea3
    obtain ⟨q3_A2, q3_c2, rfl, q3_0, q3_1, q3_2⟩ := open_Commit (x0 := x3.1) (x1 := x3.2.1) (x2 := x3.2.2) hre3
    simp only [inK] at q3_0
    simp only [inK] at q3_1
    have q3_r2 := Rd.room q3_2
    refine VO.y rfl (.ixI k rfl rfl tsl61 rfl (by first | omega | (simp only [List.length_append, List.length_nil, List.length_cons, List.length_take, List.length_drop] at *; omega) | exact e1 _ (List.mem_of_getElem? ‹d0[_]? = some _›))) ?_
    refine VO.y rfl (.ldA 0 rfl tk52 rfl hce3) ?_
    refine VO.callN 104 rfl fnOk110 rfl (fun W hW => CopyCommit_ok W (Rd.mono hre3 (hW.at (i := 0) rfl)) (by first | omega | (simp only [List.length_append, List.length_nil, List.length_cons, List.length_take, List.length_drop] at *; omega) | exact e1 _ (List.mem_of_getElem? ‹d0[_]? = some _›))) (fun v4 m4 hv4 => ?_)
    obtain ⟨s4_0, rfl, f4_0⟩ := hv4
    obtain ⟨q4_0_A2, q4_0_c2, q4_0_n2, rfl, q4_0_S, q4_0_0, q4_0_1, q4_0_2⟩ := openO_Commit (x0 := x3.1) (x1 := x3.2.1) (x2 := x3.2.2) f4_0
    simp only [inK] at q4_0_0
    simp only [inK] at q4_0_1
    have q4_0_r2 := Rd.room (q4_0_2.rd (mle_refl _))
    refine VO.inv _ (fun _ h => h.parts (i := 104) rfl q4_0_S [105]) ?_
    refine VO.bsl (cs := [Value.int .i64 (x3.1), Value.int .i64 (x3.2.1), Value.slice q4_0_A2 (x3.2.2.length) (q4_0_c2)]) 107 rfl rfl tsl61 tz52 rfl rfl (fun g6 => ?_)
    refine VO.appO (e := TCommit) 101 105 107 rfl rfl rfl tsl61 tz52 rfl rfl rfl rfl h_out (show Ow TCommit _ _ x3 from (mkO_Commit x3.1 x3.2.1 x3.2.2 (Seps.one (mle_refl _)) (by simp only [inK]; (first | omega | (simp only [List.length_append, List.length_nil, List.length_cons, List.length_take, List.length_drop] at *; omega) | exact e1 _ (List.mem_of_getElem? ‹d0[_]? = some _›))) (by simp only [inK]; (first | omega | (simp only [List.length_append, List.length_nil, List.length_cons, List.length_take, List.length_drop] at *; omega) | exact e1 _ (List.mem_of_getElem? ‹d0[_]? = some _›))) (OwnL.ow (Ow.ownl q4_0_2 rfl mnil) rfl))) Try.underlying61 (cellsAt_one rfl rfl) (by simp only [maxLen]; (first | omega | (simp only [List.length_append, List.length_nil, List.length_cons, List.length_take, List.length_drop] at *; omega) | exact e1 _ (List.mem_of_getElem? ‹d0[_]? = some _›))) (by first | omega | (simp only [List.length_append, List.length_nil, List.length_cons, List.length_take, List.length_drop] at *; omega) | exact e1 _ (List.mem_of_getElem? ‹d0[_]? = some _›)) (by decide) (fun v8 m8 ho8 => ?_)
    obtain ⟨A8, c8, rfl, l8, k8⟩ := ho8.slice
    simp only [maxLen] at k8
    refine VO.y rfl (.as rfl) ?_
    refine VO.esub [(0, _), (2, _), (3, _), (4, _), (8, _)] ⟨rfl, rfl, rfl, rfl, rfl, trivial⟩ (VO.nil ?_)
    refine outBN ?_
    refine outN ?_
    refine VC.reg ?_
    refine VO.y rfl (.mv rfl) ?_
    refine VO.y rfl (.add (c := ((k + 1 : Nat) : Int)) rfl rfl (by omega) ⟨by first | omega | (simp only [List.length_append, List.length_nil, List.length_cons, List.length_take, List.length_drop] at *; omega) | exact e1 _ (List.mem_of_getElem? ‹d0[_]? = some _›), by first | omega | (simp only [List.length_append, List.length_nil, List.length_cons, List.length_take, List.length_drop] at *; omega) | exact e1 _ (List.mem_of_getElem? ‹d0[_]? = some _›)⟩) ?_
    refine VO.y rfl (.as rfl) ?_
    refine VO.esub [(0, _), (2, _), (3, _), (4, _), (8, _)] ⟨rfl, rfl, rfl, rfl, rfl, trivial⟩ (VO.nil ?_)
    exact outN ⟨⟨k + 1, out ++ [x3], A8, c8, m8⟩, ⟨by omega, by rw [ho]; exact (take_one ‹_›).symm, ho8⟩, by first | omega | (simp only [List.length_append, List.length_nil, List.length_cons, List.length_take, List.length_drop] at *; omega) | exact e1 _ (List.mem_of_getElem? ‹d0[_]? = some _›), ⟨⟨rfl, rfl, rfl, rfl, trivial⟩, fun _ h => Inv.sub h [101, 0]⟩⟩
  · -- F
    refine VC.exit ?_
    refine outE ?_
    refine outE ?_
    refine outBB ?_
    refine outN ?_
    refine VC.rs ?_
    refine VO.y rfl (.mv rfl) ?_
    refine VO.y rfl (.as rfl) ?_
    refine VO.esub [(0, _), (2, _), (3, _), (4, _), (8, _)] ⟨rfl, rfl, rfl, rfl, rfl, trivial⟩ (VO.nil ?_)
    refine VC.ret ?_
    refine ⟨_, _, res_run (rs := [.tmp 2]) rfl (.tmp rfl .nil), fun W_ hI => out_of (l := [out_m]) hI [101] rfl rfl (mle_refl _) (fun hS_ => ?_)⟩
    dsimp only [packV]
    have he0 : (d0 : Ty.Den (.sl TCommit)) = out := by first | rfl | (rw [ho, List.take_of_length_le (by omega)])
    refine ⟨Value.slice out_A (out.length) (out_c), ?_, ?_⟩
    rotate_left
    · rw [he0]; exact (Ow.up h_out (hS_.1 _ (.head _)))
    all_goals (first | rfl | (simp [*]; done))
theorem takeTwice_ok (W : World) (d0 : Int) (h0 : inK .i64 d0) {v1 : Value} {d1 : List DCommit} (h1 : Rd (.sl TCommit) (wm W) [v1] d1) {v2 : List Value} {d2 : DMessage} (h2 : Rd TMessage (wm W) v2 d2) : CallR Try.prog 19 [.int .i64 d0, v1, .agg v2.toArray] W (mnil) (fun v m' => v = .bool true) := by
  have h0' := h0; simp only [inK] at h0'
  obtain ⟨A1, c1, rfl, l1, k1⟩ := h1.slice
  simp only [maxLen] at k1
  obtain ⟨p2_A4, p2_c4, p2_A7, p2_c7, rfl, p2_0, p2_1, p2_2, p2_3, p2_4, p2_5, p2_6, p2_7⟩ := open_Message (x0 := d2.1) (x1 := d2.2.1) (x2 := d2.2.2.1) (x3 := d2.2.2.2.1) (x4 := d2.2.2.2.2.1) (x5 := d2.2.2.2.2.2.1) (x6 := d2.2.2.2.2.2.2.1) (x7 := d2.2.2.2.2.2.2.2) h2
  simp only [inK] at p2_0
  simp only [inK] at p2_1
  simp only [inK] at p2_2
  simp only [inK] at p2_3
  have p2_r4 := Rd.room p2_4
  simp only [inK] at p2_5
  simp only [inK] at p2_6
  have p2_r7 := Rd.room p2_7
  refine CallR.ofA (n := 148) Try.func19 rfl rfl rfl ?_
  refine VC.rs ?_
  refine VO.box (cs := [Value.int .i64 (d2.1), Value.int .i64 (d2.2.1), Value.int .u8 (d2.2.2.1), Value.int .i64 (d2.2.2.2.1), Value.slice p2_A4 (d2.2.2.2.2.1.length) (p2_c4), Value.int .i64 (d2.2.2.2.2.2.1), Value.int .i64 (d2.2.2.2.2.2.2.1), Value.slice p2_A7 (d2.2.2.2.2.2.2.2.length) (p2_c7)]) 102 rfl rfl rfl (fun g1 => ?_)
  refine VO.y rfl (.as rfl) ?_
  refine VO.esub [(0, _), (1, _), (2, _), (5, _), (6, _)] ⟨rfl, rfl, rfl, rfl, rfl, trivial⟩ (VO.nil ?_)
  refine VC.seq ?_
  refine VC.rs ?_
  refine VO.callN 103 rfl fnOk81 rfl (fun W hW => lives18_ok W ) (fun v3 m3 hv3 => ?_)
  subst hv3
  refine VO.y rfl (.not rfl) ?_
  refine VO.esub [(0, _), (1, _), (2, _), (5, _), (6, _), (14, _)] ⟨rfl, rfl, rfl, rfl, rfl, rfl, trivial⟩ (VO.nil ?_)
  refine VC.condF rfl ?_
  refine VC.skip ?_
  refine outN ?_
  refine VC.seq ?_
  refine VC.rs ?_
  refine VO.y rfl (.mv rfl) ?_
  refine VO.callN 104 rfl fnOk82 rfl (fun W hW => small18_ok W (Rd.mono h1 (hW.at (i := 0) rfl))) (fun v4 m4 hv4 => ?_)
  subst hv4
  refine VO.y rfl (.notD rfl) ?_
  refine VO.y rfl (.mv rfl) ?_
  refine VO.dec (t := 18) rfl (fun hc5 => ?_) (fun hc5 => ?_)
  · -- T
    refine VO.gn rfl (.inl ⟨_, rfl, rfl⟩) ?_
    refine VO.gn rfl (.inl ⟨_, rfl, rfl⟩) ?_
    refine VO.gn rfl (.inl ⟨_, rfl, rfl⟩) ?_
    refine VO.gn rfl (.inl ⟨_, rfl, rfl⟩) ?_
    refine VO.y rfl (.pT rfl rfl) ?_
    refine VO.y rfl (.mv rfl) ?_
    refine VO.gn rfl (.inl ⟨_, rfl, rfl⟩) ?_
    refine VO.gn rfl (.inl ⟨_, rfl, rfl⟩) ?_
    refine VO.gn rfl (.inl ⟨_, rfl, rfl⟩) ?_
    refine VO.gn rfl (.inl ⟨_, rfl, rfl⟩) ?_
    refine VO.y rfl (.pT rfl rfl) ?_
    refine VO.esub [(0, _), (1, _), (2, _), (5, _), (6, _), (14, _), (29, _)] ⟨rfl, rfl, rfl, rfl, rfl, rfl, rfl, trivial⟩ (VO.nil ?_)
    refine VC.condT rfl ?_
    refine VC.rs ?_
    refine VO.y rfl (.as rfl) ?_
    refine VO.esub [(0, _), (1, _), (2, _), (5, _), (6, _), (14, _), (29, _)] ⟨rfl, rfl, rfl, rfl, rfl, rfl, rfl, trivial⟩ (VO.nil ?_)
    refine VC.ret ?_
    refine outR ?_
    refine ⟨_, _, res_run (rs := [.tmp 6]) rfl (.tmp rfl .nil), fun W_ hI => out_of (l := []) hI [] rfl rfl (mle_refl _) (fun hS_ => ?_)⟩
    dsimp only [packV]
    all_goals (first | rfl | (first | exact congrArg Value.bool (decide_eq_true (take_allen (by omega))) | exact congrArg Value.bool (decide_eq_true (by rw [take_bad ‹_›]; rfl))))
  · -- F
    refine VO.gy rfl ⟨_, rfl, rfl⟩ (.fa rfl tst72 rfl) ?_
    refine VO.gy rfl ⟨_, rfl, rfl⟩ (.ld1 102 rfl tk61 rfl (cellsAt_one rfl rfl)) ?_
    refine VO.gcallN 106 rfl ⟨_, rfl, rfl⟩ fnOk82 rfl (fun W hW => small18_ok W (Rd.mono p2_7 (hW.at (i := 0) rfl))) (fun v6 m6 hv6 => ?_)
    subst hv6
    refine VO.gy rfl ⟨_, rfl, rfl⟩ (.notD rfl) ?_
    refine VO.y rfl (.pF rfl rfl) ?_
    refine VO.y rfl (.mv rfl) ?_
    refine VO.dec (t := 24) rfl (fun hc7 => ?_) (fun hc7 => ?_)
    · -- FT
      refine VO.gn rfl (.inl ⟨_, rfl, rfl⟩) ?_
      refine VO.gn rfl (.inl ⟨_, rfl, rfl⟩) ?_
      refine VO.gn rfl (.inl ⟨_, rfl, rfl⟩) ?_
      refine VO.gn rfl (.inl ⟨_, rfl, rfl⟩) ?_
      refine VO.y rfl (.pT rfl rfl) ?_
      refine VO.esub [(0, _), (1, _), (2, _), (5, _), (6, _), (14, _), (29, _)] ⟨rfl, rfl, rfl, rfl, rfl, rfl, rfl, trivial⟩ (VO.nil ?_)
      refine VC.condT rfl ?_
      refine VC.rs ?_
      refine VO.y rfl (.as rfl) ?_
      refine VO.esub [(0, _), (1, _), (2, _), (5, _), (6, _), (14, _), (29, _)] ⟨rfl, rfl, rfl, rfl, rfl, rfl, rfl, trivial⟩ (VO.nil ?_)
      refine VC.ret ?_
      refine outR ?_
      refine ⟨_, _, res_run (rs := [.tmp 6]) rfl (.tmp rfl .nil), fun W_ hI => out_of (l := []) hI [] rfl rfl (mle_refl _) (fun hS_ => ?_)⟩
      dsimp only [packV]
      all_goals (first | rfl | (first | exact congrArg Value.bool (decide_eq_true (take_allen (by omega))) | exact congrArg Value.bool (decide_eq_true (by rw [take_bad ‹_›]; rfl))))
    · -- FF
      refine VO.gy rfl ⟨_, rfl, rfl⟩ (.fa rfl tst72 rfl) ?_
      refine VO.gy rfl ⟨_, rfl, rfl⟩ (.ld1 102 rfl tk70 rfl (cellsAt_one rfl rfl)) ?_
      refine VO.gy rfl ⟨_, rfl, rfl⟩ (.lenS rfl tsl70) ?_
      refine VO.gy rfl ⟨_, rfl, rfl⟩ (.gtr rfl rfl) ?_
      refine VO.y rfl (.pF rfl rfl) ?_
      refine VO.esub [(0, _), (1, _), (2, _), (5, _), (6, _), (14, _), (29, _)] ⟨rfl, rfl, rfl, rfl, rfl, rfl, rfl, trivial⟩ (VO.nil ?_)
      refine VC.cond rfl (fun hc8 => ?_) (fun hc8 => ?_)
      · -- FFT
        refine VC.rs ?_
        refine VO.y rfl (.as rfl) ?_
        refine VO.esub [(0, _), (1, _), (2, _), (5, _), (6, _), (14, _), (29, _)] ⟨rfl, rfl, rfl, rfl, rfl, rfl, rfl, trivial⟩ (VO.nil ?_)
        refine VC.ret ?_
        refine outR ?_
        refine ⟨_, _, res_run (rs := [.tmp 6]) rfl (.tmp rfl .nil), fun W_ hI => out_of (l := []) hI [] rfl rfl (mle_refl _) (fun hS_ => ?_)⟩
        dsimp only [packV]
        all_goals (first | rfl | (first | exact congrArg Value.bool (decide_eq_true (take_allen (by omega))) | exact congrArg Value.bool (decide_eq_true (by rw [take_bad ‹_›]; rfl))))
      · -- FFF
        refine VC.skip ?_
        refine outN ?_
        refine VC.rs ?_
        refine VO.y rfl (.mv rfl) ?_
        refine VO.y rfl (.mv rfl) ?_
        refine VO.y rfl (.ldA 102 rfl tk72 rfl (cellsAt_one rfl rfl)) ?_
        refine VO.callN 109 rfl fnOk78 rfl (fun W hW => take_ok W d0 (by simp only [inK]; (first | omega | (simp only [List.length_append, List.length_nil, List.length_cons, List.length_take, List.length_drop] at *; omega) | (have := (take_len (by omega : (takeOf d0 d1 d2).2 = 0)).2; omega))) (Rd.mono h1 (hW.at (i := 0) rfl)) (Rd.mono h2 (hW.at (i := 0) rfl))) (fun v9 m9 hv9 => ?_)
        obtain ⟨s9_0, rfl, f9_0⟩ := hv9
        obtain ⟨A9_0, c9_0, eq9_0, l9_0, k9_0⟩ := f9_0.slice
        subst eq9_0
        simp only [maxLen] at k9_0
        refine VO.y rfl (.mv rfl) ?_
        refine VO.y rfl (.ext rfl rfl) ?_
        refine VO.y rfl (.ext rfl rfl) ?_
        refine VO.y rfl (.as rfl) ?_
        refine VO.y rfl (.as rfl) ?_
        refine VO.esub [(0, _), (1, _), (2, _), (5, _), (6, _), (7, _), (8, _), (14, _), (29, _)] ⟨rfl, rfl, rfl, rfl, rfl, rfl, rfl, rfl, rfl, trivial⟩ (VO.nil ?_)
        refine VC.seq ?_
        refine VC.rs ?_
        refine VO.y rfl (.mv rfl) ?_
        refine VO.y rfl (.neq rfl rfl) ?_
        refine VO.esub [(0, _), (1, _), (2, _), (5, _), (6, _), (7, _), (8, _), (14, _), (29, _), (38, _)] ⟨rfl, rfl, rfl, rfl, rfl, rfl, rfl, rfl, rfl, rfl, trivial⟩ (VO.nil ?_)
        refine VC.cond rfl (fun hc10 => ?_) (fun hc10 => ?_)
        · -- FFFT
          refine VC.rs ?_
          refine VO.y rfl (.mv rfl) ?_
          refine VO.y rfl (.lenS rfl tsl61) ?_
          refine VO.y rfl (.eql rfl rfl) ?_
          refine VO.y rfl (.as rfl) ?_
          refine VO.esub [(0, _), (1, _), (2, _), (5, _), (6, _), (7, _), (8, _), (14, _), (29, _), (38, _)] ⟨rfl, rfl, rfl, rfl, rfl, rfl, rfl, rfl, rfl, rfl, trivial⟩ (VO.nil ?_)
          refine VC.ret ?_
          refine outR ?_
          refine ⟨_, _, res_run (rs := [.tmp 6]) rfl (.tmp rfl .nil), fun W_ hI => out_of (l := []) hI [] rfl rfl (mle_refl _) (fun hS_ => ?_)⟩
          dsimp only [packV]
          all_goals (first | rfl | (first | exact congrArg Value.bool (decide_eq_true (take_allen (by omega))) | exact congrArg Value.bool (decide_eq_true (by rw [take_bad ‹_›]; rfl))))
        · -- FFFF
          refine VC.skip ?_
          refine outN ?_
          refine VC.rs ?_
          refine VO.y rfl (.mv rfl) ?_
          refine VO.callN 111 rfl fnOk56 rfl (fun W hW => CopyCommits_ok W (Rd.mono h1 (hW.at (i := 0) rfl)) (by first | omega | (simp only [List.length_append, List.length_nil, List.length_cons, List.length_take, List.length_drop] at *; omega) | (have := (take_len (by omega : (takeOf d0 d1 d2).2 = 0)).2; omega)) (by exact fun c hc => by have := (Decidable.not_not.1 ‹¬ ¬ ((∀ c ∈ d1, c.2.2.length ≤ 40) ∧ _)›).1 c hc; omega)) (fun v11 m11 hv11 => ?_)
          obtain ⟨s11_0, rfl, f11_0⟩ := hv11
          obtain ⟨A11_0, c11_0, eq11_0, l11_0, k11_0⟩ := f11_0.slice
          subst eq11_0
          simp only [maxLen] at k11_0
          refine VO.y rfl (.mv rfl) ?_
          refine VO.appOs (e := TCommit) 111 109 rfl rfl rfl tsl61 tz52 rfl rfl rfl f11_0 f9_0 Try.underlying61 (by simp only [maxLen]; (first | omega | (simp only [List.length_append, List.length_nil, List.length_cons, List.length_take, List.length_drop] at *; omega) | (have := (take_len (by omega : (takeOf d0 d1 d2).2 = 0)).2; omega))) (by first | omega | (simp only [List.length_append, List.length_nil, List.length_cons, List.length_take, List.length_drop] at *; omega) | (have := (take_len (by omega : (takeOf d0 d1 d2).2 = 0)).2; omega)) (by decide) (fun v12 m12 ho12 => ?_)
          obtain ⟨A12, c12, rfl, l12, k12⟩ := ho12.slice
          simp only [maxLen] at k12
          refine VO.y rfl (.as rfl) ?_
          refine VO.esub [(0, _), (1, _), (2, _), (5, _), (6, _), (7, _), (8, _), (9, _), (14, _), (29, _), (38, _)] ⟨rfl, rfl, rfl, rfl, rfl, rfl, rfl, rfl, rfl, rfl, rfl, trivial⟩ (VO.nil ?_)
          refine VC.seq ?_
          refine VC.rs ?_
          refine VO.y rfl (.mv rfl) ?_
          refine VO.callN 113 rfl fnOk52 rfl (fun W hW => follows_ok W 0 (by simp only [inK]; (first | omega | (simp only [List.length_append, List.length_nil, List.length_cons, List.length_take, List.length_drop] at *; omega) | (have := (take_len (by omega : (takeOf d0 d1 d2).2 = 0)).2; omega))) 0 (by simp only [inK]; (first | omega | (simp only [List.length_append, List.length_nil, List.length_cons, List.length_take, List.length_drop] at *; omega) | (have := (take_len (by omega : (takeOf d0 d1 d2).2 = 0)).2; omega))) (Ow.rd ho12 (hW.at (i := 111) rfl))) (fun v13 m13 hv13 => ?_)
          obtain ⟨s13_0, rfl, f13_0⟩ := hv13
          obtain ⟨rfl, q13_0_0, q13_0_1⟩ := open_Fault (x0 := (cFollows 0 0 (d1 ++ ((takeOf d0 d1 d2).1))).1) (x1 := (cFollows 0 0 (d1 ++ ((takeOf d0 d1 d2).1))).2) (f13_0.rd (mle_refl _))
          simp only [inK] at q13_0_0
          simp only [inK] at q13_0_1
          refine VO.y rfl (.bst (cs := [Value.int .i64 (0), Value.int .i64 (0)]) rfl tst57 tz57 rfl) ?_
          refine VO.y rfl (.stneq (p := ((cFollows 0 0 (d1 ++ ((takeOf d0 d1 d2).1))).1) = 0 ∧ ((cFollows 0 0 (d1 ++ ((takeOf d0 d1 d2).1))).2) = 0) rfl rfl (teq57 ((cFollows 0 0 (d1 ++ ((takeOf d0 d1 d2).1))).1) ((cFollows 0 0 (d1 ++ ((takeOf d0 d1 d2).1))).2)) (teq57 0 0) (by simp [ceq, ba_toList])) ?_
          refine VO.y rfl (.mv rfl) ?_
          refine VO.dec (t := 50) rfl (fun hc14 => ?_) (fun hc14 => ?_)
          · -- FFFFT
            have hz : (takeOf d0 d1 d2).2 = 0 := (by omega); exact absurd (by unfold cFollows; rw [follows_zero (take_fits hz)]; exact ⟨rfl, rfl⟩) hc14
          · -- FFFFF
            refine VO.gy rfl ⟨_, rfl, rfl⟩ (.fa rfl tst72 rfl) ?_
            refine VO.gy rfl ⟨_, rfl, rfl⟩ (.ld1 102 rfl tk3 rfl (cellsAt_one rfl rfl)) ?_
            refine VO.gy rfl ⟨_, rfl, rfl⟩ (.lss rfl rfl) ?_
            refine VO.y rfl (.pF rfl rfl) ?_
            refine VO.y rfl (.mv rfl) ?_
            refine VO.dec (t := 55) rfl (fun hc15 => ?_) (fun hc15 => ?_)
            · -- FFFFFT
              have hz : (takeOf d0 d1 d2).2 = 0 := (by omega); have h1 := take_facts hz; have := (lCheck_ship h1.2.1 h1.2.2.1).1; omega
            · -- FFFFFF
              refine VO.gy rfl ⟨_, rfl, rfl⟩ (.fa rfl tst72 rfl) ?_
              refine VO.gy rfl ⟨_, rfl, rfl⟩ (.ld1 102 rfl tk3 rfl (cellsAt_one rfl rfl)) ?_
              refine VO.gy rfl ⟨_, rfl, rfl⟩ (.mv rfl) ?_
              refine VO.gy rfl ⟨_, rfl, rfl⟩ (.lenS rfl tsl61) ?_
              refine VO.gy rfl ⟨_, rfl, rfl⟩ (.add (c := ((d1.length + 1 : Nat) : Int)) rfl rfl (by omega) ⟨by first | omega | (simp only [List.length_append, List.length_nil, List.length_cons, List.length_take, List.length_drop] at *; omega) | (have := (take_len (by omega : (takeOf d0 d1 d2).2 = 0)).2; omega), by first | omega | (simp only [List.length_append, List.length_nil, List.length_cons, List.length_take, List.length_drop] at *; omega) | (have := (take_len (by omega : (takeOf d0 d1 d2).2 = 0)).2; omega)⟩) ?_
              refine VO.gy rfl ⟨_, rfl, rfl⟩ (.gtr rfl rfl) ?_
              refine VO.y rfl (.pF rfl rfl) ?_
              refine VO.esub [(0, _), (1, _), (2, _), (5, _), (6, _), (7, _), (8, _), (9, _), (14, _), (29, _), (38, _), (62, _)] ⟨rfl, rfl, rfl, rfl, rfl, rfl, rfl, rfl, rfl, rfl, rfl, rfl, trivial⟩ (VO.nil ?_)
              refine VC.cond rfl (fun hc16 => ?_) (fun hc16 => ?_)
              · -- FFFFFFT
                have hz : (takeOf d0 d1 d2).2 = 0 := (by omega); have := (take_facts hz).2.2.2.2.1; omega
              · -- FFFFFFF
                refine VC.skip ?_
                refine outN ?_
                refine VC.seq ?_
                refine VC.rs ?_
                refine VO.y rfl (.as rfl) ?_
                refine VO.esub [(0, _), (1, _), (2, _), (5, _), (6, _), (7, _), (8, _), (9, _), (10, _), (14, _), (29, _), (38, _), (62, _)] ⟨rfl, rfl, rfl, rfl, rfl, rfl, rfl, rfl, rfl, rfl, rfl, rfl, rfl, trivial⟩ (VO.nil ?_)
                refine VC.block ?_
                refine VC.loop (G := Nat) (fun k => [(10, Value.int .i64 (((k : Nat) : Int))), (0, Value.int .i64 (d0)), (1, Value.slice A1 (d1.length) (c1)), (2, Value.agg [Value.int .i64 (d2.1), Value.int .i64 (d2.2.1), Value.int .u8 (d2.2.2.1), Value.int .i64 (d2.2.2.2.1), Value.slice p2_A4 (d2.2.2.2.2.1.length) (p2_c4), Value.int .i64 (d2.2.2.2.2.2.1), Value.int .i64 (d2.2.2.2.2.2.2.1), Value.slice p2_A7 (d2.2.2.2.2.2.2.2.length) (p2_c7)].toArray), (5, Value.pointer (some ⟨g1, 0, none⟩)), (7, Value.slice A9_0 (((takeOf d0 d1 d2).1).length) (c9_0)), (8, Value.int .i64 ((takeOf d0 d1 d2).2)), (9, Value.slice A12 ((d1 ++ ((takeOf d0 d1 d2).1)).length) (c12)), (14, Value.bool false), (29, Value.bool (decide (40 < ((d2.2.2.2.2.1.length : Nat) : Int)))), (38, Value.bool (decide (¬ ((takeOf d0 d1 d2).2) = 0))), (62, Value.bool (decide (((d1.length + 1 : Nat) : Int) < d2.2.2.2.2.2.1)))]) (fun k => [(111, m12), (102, mone g1 (.cells [Value.int .i64 (d2.1), Value.int .i64 (d2.2.1), Value.int .u8 (d2.2.2.1), Value.int .i64 (d2.2.2.2.1), Value.slice p2_A4 (d2.2.2.2.2.1.length) (p2_c4), Value.int .i64 (d2.2.2.2.2.2.1), Value.int .i64 (d2.2.2.2.2.2.2.1), Value.slice p2_A7 (d2.2.2.2.2.2.2.2.length) (p2_c7)].toArray 72 (0, 0))), (0, wm W)]) (fun k => (k ≤ d2.2.2.2.2.2.2.2.length)) (fun k => d2.2.2.2.2.2.2.2.length - k) 0 (by omega) ⟨⟨rfl, rfl, rfl, rfl, rfl, rfl, rfl, rfl, rfl, rfl, rfl, rfl, trivial⟩, fun _ h => h.sub [111, 102, 0]⟩ ?_
                rintro k hk
                have hz : (takeOf d0 d1 d2).2 = 0 := (by omega)
                refine VC.seq ?_
                refine VC.rs ?_
                refine VO.y rfl (.mv rfl) ?_
                refine VO.y rfl (.fa rfl tst72 rfl) ?_
                refine VO.y rfl (.ld1 102 rfl tk61 rfl (cellsAt_one rfl rfl)) ?_
                refine VO.y rfl (.lenS rfl tsl61) ?_
                refine VO.y rfl (.lss rfl rfl) ?_
                refine VO.esub [(0, _), (1, _), (2, _), (5, _), (7, _), (8, _), (9, _), (10, _), (14, _), (29, _), (38, _), (62, _), (67, _)] ⟨rfl, rfl, rfl, rfl, rfl, rfl, rfl, rfl, rfl, rfl, rfl, rfl, rfl, trivial⟩ (VO.nil ?_)
                refine VC.cond rfl (fun hc17 => ?_) (fun hc17 => ?_)
                · -- FFFFFFFT
                  refine VC.skip ?_
                  refine outN ?_
                  refine VC.seq ?_
                  refine VC.block ?_
                  refine VC.rs ?_
                  refine VO.y rfl (.fa rfl tst72 rfl) ?_
                  refine VO.y rfl (.ld1 102 rfl tk61 rfl (cellsAt_one rfl rfl)) ?_
                  refine VO.y rfl (.mv rfl) ?_
                  obtain ⟨x18, hx18⟩ : ∃ x, (d2.2.2.2.2.2.2.2)[k]? = some x := ⟨_, List.getElem?_eq_getElem (by first | omega | (simp only [List.length_append, List.length_nil, List.length_cons, List.length_take, List.length_drop] at *; omega) | (have := (take_len (by omega : (takeOf d0 d1 d2).2 = 0)).2; omega))⟩
                  obtain ⟨gg18, oo18, ec18, ea18, hce18, hre18⟩ := p2_7.elem hx18
                  cases ea18
                  obtain ⟨q18_A2, q18_c2, rfl, q18_0, q18_1, q18_2⟩ := open_Commit (x0 := x18.1) (x1 := x18.2.1) (x2 := x18.2.2) hre18
                  simp only [inK] at q18_0
                  simp only [inK] at q18_1
                  have q18_r2 := Rd.room q18_2
                  refine VO.y rfl (.ixI k rfl rfl tsl61 rfl (by first | omega | (simp only [List.length_append, List.length_nil, List.length_cons, List.length_take, List.length_drop] at *; omega) | (have := (take_len (by omega : (takeOf d0 d1 d2).2 = 0)).2; omega))) ?_
                  refine VO.y rfl (.fa rfl tst52 rfl) ?_
                  refine VO.y rfl (.ld1 0 rfl tk3 rfl (hce18.at1 (j := 1) rfl)) ?_
                  refine VO.y rfl (.as rfl) ?_
                  refine VO.esub [(0, _), (1, _), (2, _), (5, _), (7, _), (8, _), (9, _), (10, _), (11, _), (14, _), (29, _), (38, _), (62, _), (67, _)] ⟨rfl, rfl, rfl, rfl, rfl, rfl, rfl, rfl, rfl, rfl, rfl, rfl, rfl, rfl, trivial⟩ (VO.nil ?_)
                  refine VC.seq ?_
                  refine VC.regD _ 39 [(0, true), (1, true), (2, true), (3, true), (4, true), (5, true), (6, true), (7, true), (8, true), (9, true), (10, true), (11, true), (12, true), (13, true), (14, true), (15, true), (16, true), (17, true), (18, true), (19, true), (20, true), (21, true), (22, true), (23, true), (24, true), (25, true), (26, true), (27, true), (28, true), (29, true), (30, true), (31, true), (32, true), (33, true), (34, true), (35, true), (36, true), (37, true), (38, true)] follows (by kernel_rfl) (fun _ h => h.sub [111, 102, 0]) ?_
                  refine VD.y rfl rfl (.inl rfl) (.mv rfl) ?_
                  refine VD.y rfl rfl (.inl rfl) (.lss rfl rfl) ?_
                  refine VD.y rfl rfl (.inl rfl) (.mv rfl) ?_
                  refine VD.dec (s := 78) rfl (fun hc19 => ?_) (fun hc19 => ?_)
                  · -- FFFFFFFTT
                    have := take_at hz ‹d2.2.2.2.2.2.2.2[k]? = some _›; omega
                  · -- FFFFFFFTF
                    refine VD.y rfl rfl (.inr ⟨_, _, rfl, _, rfl, rfl⟩) (.mv rfl) ?_
                    refine VD.y rfl rfl (.inr ⟨_, _, rfl, _, rfl, rfl⟩) (.mv rfl) ?_
                    refine VD.y rfl rfl (.inr ⟨_, _, rfl, _, rfl, rfl⟩) (.lenS rfl tsl61) ?_
                    refine VD.y rfl rfl (.inr ⟨_, _, rfl, _, rfl, rfl⟩) (.gtr rfl rfl) ?_
                    refine VD.y rfl rfl (.inl rfl) (.pF rfl rfl) ?_
                    refine VD.y rfl rfl (.inl rfl) (.mv rfl) ?_
                    refine VD.dec (s := 84) rfl (fun hc20 => ?_) (fun hc20 => ?_)
                    · -- FFFFFFFTFT
                      have := (take_at hz ‹d2.2.2.2.2.2.2.2[k]? = some _›).2.2.1; omega
                    · -- FFFFFFFTFF
                      refine VD.y rfl rfl (.inr ⟨_, _, rfl, _, rfl, rfl⟩) (.mv rfl) ?_
                      refine VD.y rfl rfl (.inr ⟨_, _, rfl, _, rfl, rfl⟩) (.mv rfl) ?_
                      refine VD.y rfl rfl (.inr ⟨_, _, rfl, _, rfl, rfl⟩) (.sub rfl rfl rfl ⟨by first | omega | (simp only [List.length_append, List.length_nil, List.length_cons, List.length_take, List.length_drop] at *; omega) | (have := (take_len (by omega : (takeOf d0 d1 d2).2 = 0)).2; omega), by first | omega | (simp only [List.length_append, List.length_nil, List.length_cons, List.length_take, List.length_drop] at *; omega) | (have := (take_len (by omega : (takeOf d0 d1 d2).2 = 0)).2; omega)⟩) ?_
                      obtain ⟨x21, hx21⟩ : ∃ x, (d1 ++ ((takeOf d0 d1 d2).1))[(x18.2.1 - 1).toNat]? = some x := ⟨_, List.getElem?_eq_getElem (by first | omega | (simp only [List.length_append, List.length_nil, List.length_cons, List.length_take, List.length_drop] at *; omega) | (have := (take_len (by omega : (takeOf d0 d1 d2).2 = 0)).2; omega))⟩
                      obtain ⟨gg21, oo21, ec21, ea21, hce21, hre21⟩ := (Ow.rd ho12 (mle_refl _)).elem hx21
                      cases ea21
                      obtain ⟨q21_A2, q21_c2, rfl, q21_0, q21_1, q21_2⟩ := open_Commit (x0 := x21.1) (x1 := x21.2.1) (x2 := x21.2.2) hre21
                      simp only [inK] at q21_0
                      simp only [inK] at q21_1
                      have q21_r2 := Rd.room q21_2
                      refine VD.y rfl rfl (.inr ⟨_, _, rfl, _, rfl, rfl⟩) (.ixI ((x18.2.1 - 1).toNat) rfl rfl tsl61 (by first | omega | (simp only [List.length_append, List.length_nil, List.length_cons, List.length_take, List.length_drop] at *; omega) | (have := (take_len (by omega : (takeOf d0 d1 d2).2 = 0)).2; omega)) (by first | omega | (simp only [List.length_append, List.length_nil, List.length_cons, List.length_take, List.length_drop] at *; omega) | (have := (take_len (by omega : (takeOf d0 d1 d2).2 = 0)).2; omega))) ?_
                      refine VD.y rfl rfl (.inr ⟨_, _, rfl, _, rfl, rfl⟩) (.fa rfl tst52 rfl) ?_
                      refine VD.y rfl rfl (.inr ⟨_, _, rfl, _, rfl, rfl⟩) (.ld1 111 rfl tk3 rfl (hce21.at1 (j := 0) rfl)) ?_
                      refine VD.y rfl rfl (.inr ⟨_, _, rfl, _, rfl, rfl⟩) (.fa rfl tst72 rfl) ?_
                      refine VD.y rfl rfl (.inr ⟨_, _, rfl, _, rfl, rfl⟩) (.ld1 102 rfl tk61 rfl (cellsAt_one rfl rfl)) ?_
                      refine VD.y rfl rfl (.inr ⟨_, _, rfl, _, rfl, rfl⟩) (.mv rfl) ?_
                      refine VD.y rfl rfl (.inr ⟨_, _, rfl, _, rfl, rfl⟩) (.ixI k rfl rfl tsl61 rfl (by first | omega | (simp only [List.length_append, List.length_nil, List.length_cons, List.length_take, List.length_drop] at *; omega) | (have := (take_len (by omega : (takeOf d0 d1 d2).2 = 0)).2; omega))) ?_
                      refine VD.y rfl rfl (.inr ⟨_, _, rfl, _, rfl, rfl⟩) (.fa rfl tst52 rfl) ?_
                      refine VD.y rfl rfl (.inr ⟨_, _, rfl, _, rfl, rfl⟩) (.ld1 0 rfl tk3 rfl (hce18.at1 (j := 0) rfl)) ?_
                      refine VD.y rfl rfl (.inr ⟨_, _, rfl, _, rfl, rfl⟩) (.neq rfl rfl) ?_
                      refine VD.y rfl rfl (.inl rfl) (.pF rfl rfl) ?_
                      refine VD.y rfl rfl (.inl rfl) (.mv rfl) ?_
                      refine VD.dec (s := 99) rfl (fun hc23 => ?_) (fun hc23 => ?_)
                      · -- FFFFFFFTFFT
                        exact absurd ((take_at hz ‹d2.2.2.2.2.2.2.2[k]? = some _›).2.2.2 _ ‹(d1 ++ _)[_]? = some _›).1 hc23
                      · -- FFFFFFFTFFF
                        refine VD.y rfl rfl (.inr ⟨_, _, rfl, _, rfl, rfl⟩) (.mv rfl) ?_
                        refine VD.y rfl rfl (.inr ⟨_, _, rfl, _, rfl, rfl⟩) (.mv rfl) ?_
                        refine VD.y rfl rfl (.inr ⟨_, _, rfl, _, rfl, rfl⟩) (.lenS rfl tsl61) ?_
                        refine VD.y rfl rfl (.inr ⟨_, _, rfl, _, rfl, rfl⟩) (.gtr rfl rfl) ?_
                        refine VD.y rfl rfl (.inr ⟨_, _, rfl, _, rfl, rfl⟩) (.mv rfl) ?_
                        refine VD.dec (s := 104) rfl (fun hc24 => ?_) (fun hc24 => ?_)
                        · -- FFFFFFFTFFFT
                          refine VD.y rfl rfl (.inr ⟨_, _, rfl, _, rfl, rfl⟩) (.mv rfl) ?_
                          refine VD.y rfl rfl (.inr ⟨_, _, rfl, _, rfl, rfl⟩) (.mv rfl) ?_
                          refine VD.y rfl rfl (.inr ⟨_, _, rfl, _, rfl, rfl⟩) (.sub rfl rfl rfl ⟨by first | omega | (simp only [List.length_append, List.length_nil, List.length_cons, List.length_take, List.length_drop] at *; omega) | (have := (take_len (by omega : (takeOf d0 d1 d2).2 = 0)).2; omega), by first | omega | (simp only [List.length_append, List.length_nil, List.length_cons, List.length_take, List.length_drop] at *; omega) | (have := (take_len (by omega : (takeOf d0 d1 d2).2 = 0)).2; omega)⟩) ?_
                          refine VD.y rfl rfl (.inr ⟨_, _, rfl, _, rfl, rfl⟩) (.ixI ((x18.2.1 - 1).toNat) rfl rfl tsl61 (by first | omega | (simp only [List.length_append, List.length_nil, List.length_cons, List.length_take, List.length_drop] at *; omega) | (have := (take_len (by omega : (takeOf d0 d1 d2).2 = 0)).2; omega)) (by first | omega | (simp only [List.length_append, List.length_nil, List.length_cons, List.length_take, List.length_drop] at *; omega) | (have := (take_len (by omega : (takeOf d0 d1 d2).2 = 0)).2; omega))) ?_
                          refine VD.y rfl rfl (.inr ⟨_, _, rfl, _, rfl, rfl⟩) (.ldA 111 rfl tk52 rfl hce21) ?_
                          refine VD.y rfl rfl (.inr ⟨_, _, rfl, _, rfl, rfl⟩) (.fa rfl tst72 rfl) ?_
                          refine VD.y rfl rfl (.inr ⟨_, _, rfl, _, rfl, rfl⟩) (.ld1 102 rfl tk61 rfl (cellsAt_one rfl rfl)) ?_
                          refine VD.y rfl rfl (.inr ⟨_, _, rfl, _, rfl, rfl⟩) (.mv rfl) ?_
                          refine VD.y rfl rfl (.inr ⟨_, _, rfl, _, rfl, rfl⟩) (.ixI k rfl rfl tsl61 rfl (by first | omega | (simp only [List.length_append, List.length_nil, List.length_cons, List.length_take, List.length_drop] at *; omega) | (have := (take_len (by omega : (takeOf d0 d1 d2).2 = 0)).2; omega))) ?_
                          refine VD.y rfl rfl (.inr ⟨_, _, rfl, _, rfl, rfl⟩) (.ldA 0 rfl tk52 rfl hce18) ?_
                          refine VD.nil rfl ?_ rfl
                          refine VO.gcallN 127 rfl ⟨_, rfl, rfl⟩ fnOk62 rfl (fun W hW => cSame_ok W (Rd.mono hre21 (hW.at (i := 111) rfl)) (Rd.mono hre18 (hW.at (i := 0) rfl))) (fun v27 m27 hv27 => ?_)
                          subst hv27
                          refine VO.gy rfl ⟨_, rfl, rfl⟩ (.notD rfl) ?_
                          refine VO.gy rfl ⟨_, rfl, rfl⟩ (.pT rfl rfl) ?_
                          refine VO.y rfl (.pF rfl rfl) ?_
                          refine VO.esub [(0, _), (1, _), (2, _), (5, _), (7, _), (8, _), (9, _), (10, _), (11, _), (14, _), (29, _), (38, _), (62, _), (67, _), (118, _)] ⟨rfl, rfl, rfl, rfl, rfl, rfl, rfl, rfl, rfl, rfl, rfl, rfl, rfl, rfl, rfl, trivial⟩ (VO.nil ?_)
                          refine outN ?_
                          refine VC.cond rfl (fun hc28 => ?_) (fun hc28 => ?_)
                          · -- FFFFFFFTFFFTT
                            exact absurd (((take_at hz ‹d2.2.2.2.2.2.2.2[k]? = some _›).2.2.2 _ ‹(d1 ++ _)[_]? = some _›).2 (by omega)) hc28
                          · -- FFFFFFFTFFFTF
                            refine VC.skip ?_
                            refine outBN ?_
                            refine outN ?_
                            refine VC.reg ?_
                            refine VO.y rfl (.mv rfl) ?_
                            refine VO.y rfl (.add (c := ((k + 1 : Nat) : Int)) rfl rfl (by omega) ⟨by first | omega | (simp only [List.length_append, List.length_nil, List.length_cons, List.length_take, List.length_drop] at *; omega) | (have := (take_len (by omega : (takeOf d0 d1 d2).2 = 0)).2; omega), by first | omega | (simp only [List.length_append, List.length_nil, List.length_cons, List.length_take, List.length_drop] at *; omega) | (have := (take_len (by omega : (takeOf d0 d1 d2).2 = 0)).2; omega)⟩) ?_
                            refine VO.y rfl (.as rfl) ?_
                            refine VO.inv [(111, _), (102, _), (0, _)] (fun _ h => h.sub [111, 102, 0]) ?_
                            refine VO.esub [(0, _), (1, _), (2, _), (5, _), (7, _), (8, _), (9, _), (10, _), (11, _), (14, _), (29, _), (38, _), (62, _), (67, _), (118, _)] ⟨rfl, rfl, rfl, rfl, rfl, rfl, rfl, rfl, rfl, rfl, rfl, rfl, rfl, rfl, rfl, trivial⟩ (VO.nil ?_)
                            exact outN ⟨k + 1, by omega, by first | omega | (simp only [List.length_append, List.length_nil, List.length_cons, List.length_take, List.length_drop] at *; omega) | (have := (take_len (by omega : (takeOf d0 d1 d2).2 = 0)).2; omega), ⟨⟨rfl, rfl, rfl, rfl, rfl, rfl, rfl, rfl, rfl, rfl, rfl, rfl, trivial⟩, fun _ h => Inv.sub h [111, 102, 0]⟩⟩
                        · -- FFFFFFFTFFFF
                          refine VD.gn rfl rfl (.inl ⟨_, rfl, rfl⟩) ?_
                          refine VD.gn rfl rfl (.inl ⟨_, rfl, rfl⟩) ?_
                          refine VD.gn rfl rfl (.inl ⟨_, rfl, rfl⟩) ?_
                          refine VD.gn rfl rfl (.inl ⟨_, rfl, rfl⟩) ?_
                          refine VD.gn rfl rfl (.inl ⟨_, rfl, rfl⟩) ?_
                          refine VD.gn rfl rfl (.inl ⟨_, rfl, rfl⟩) ?_
                          refine VD.gn rfl rfl (.inl ⟨_, rfl, rfl⟩) ?_
                          refine VD.gn rfl rfl (.inl ⟨_, rfl, rfl⟩) ?_
                          refine VD.gn rfl rfl (.inl ⟨_, rfl, rfl⟩) ?_
                          refine VD.gn rfl rfl (.inl ⟨_, rfl, rfl⟩) ?_
                          refine VD.nil rfl ?_ rfl
                          refine VO.gn rfl (.inl ⟨_, rfl, rfl⟩) ?_
                          refine VO.gn rfl (.inl ⟨_, rfl, rfl⟩) ?_
                          refine VO.gy rfl ⟨_, rfl, rfl⟩ (.pF rfl rfl) ?_
                          refine VO.y rfl (.pF rfl rfl) ?_
                          refine VO.esub [(0, _), (1, _), (2, _), (5, _), (7, _), (8, _), (9, _), (10, _), (11, _), (14, _), (29, _), (38, _), (62, _), (67, _), (118, _)] ⟨rfl, rfl, rfl, rfl, rfl, rfl, rfl, rfl, rfl, rfl, rfl, rfl, rfl, rfl, rfl, trivial⟩ (VO.nil ?_)
                          refine outN ?_
                          refine VC.condF rfl ?_
                          refine VC.skip ?_
                          refine outBN ?_
                          refine outN ?_
                          refine VC.reg ?_
                          refine VO.y rfl (.mv rfl) ?_
                          refine VO.y rfl (.add (c := ((k + 1 : Nat) : Int)) rfl rfl (by omega) ⟨by first | omega | (simp only [List.length_append, List.length_nil, List.length_cons, List.length_take, List.length_drop] at *; omega) | (have := (take_len (by omega : (takeOf d0 d1 d2).2 = 0)).2; omega), by first | omega | (simp only [List.length_append, List.length_nil, List.length_cons, List.length_take, List.length_drop] at *; omega) | (have := (take_len (by omega : (takeOf d0 d1 d2).2 = 0)).2; omega)⟩) ?_
                          refine VO.y rfl (.as rfl) ?_
                          refine VO.inv [(111, _), (102, _), (0, _)] (fun _ h => h.sub [111, 102, 0]) ?_
                          refine VO.esub [(0, _), (1, _), (2, _), (5, _), (7, _), (8, _), (9, _), (10, _), (11, _), (14, _), (29, _), (38, _), (62, _), (67, _), (118, _)] ⟨rfl, rfl, rfl, rfl, rfl, rfl, rfl, rfl, rfl, rfl, rfl, rfl, rfl, rfl, rfl, trivial⟩ (VO.nil ?_)
                          exact outN ⟨k + 1, by omega, by first | omega | (simp only [List.length_append, List.length_nil, List.length_cons, List.length_take, List.length_drop] at *; omega) | (have := (take_len (by omega : (takeOf d0 d1 d2).2 = 0)).2; omega), ⟨⟨rfl, rfl, rfl, rfl, rfl, rfl, rfl, rfl, rfl, rfl, rfl, rfl, trivial⟩, fun _ h => Inv.sub h [111, 102, 0]⟩⟩
                · -- FFFFFFFF
                  refine VC.exit ?_
                  refine outE ?_
                  refine outE ?_
                  refine outBB ?_
                  refine outN ?_
                  refine VC.rs ?_
                  refine VO.y rfl (.mv rfl) ?_
                  refine VO.y rfl (.mv rfl) ?_
                  refine VO.y rfl (.ldA 102 rfl tk72 rfl (cellsAt_one rfl rfl)) ?_
                  refine VO.callN 129 rfl fnOk78 rfl (fun W hW => take_ok W d0 (by simp only [inK]; (first | omega | (simp only [List.length_append, List.length_nil, List.length_cons, List.length_take, List.length_drop] at *; omega) | (have := (take_len (by omega : (takeOf d0 d1 d2).2 = 0)).2; omega))) (Ow.rd ho12 (hW.at (i := 111) rfl)) (Rd.mono h2 (hW.at (i := 0) rfl))) (fun v29 m29 hv29 => ?_)
                  obtain ⟨s29_0, rfl, f29_0⟩ := hv29
                  obtain ⟨A29_0, c29_0, eq29_0, l29_0, k29_0⟩ := f29_0.slice
                  subst eq29_0
                  simp only [maxLen] at k29_0
                  refine VO.y rfl (.mv rfl) ?_
                  refine VO.y rfl (.ext rfl rfl) ?_
                  refine VO.y rfl (.ext rfl rfl) ?_
                  refine VO.y rfl (.as rfl) ?_
                  refine VO.y rfl (.as rfl) ?_
                  refine VO.esub [(0, _), (1, _), (2, _), (5, _), (7, _), (8, _), (9, _), (10, _), (12, _), (14, _), (29, _), (38, _), (62, _), (67, _)] ⟨rfl, rfl, rfl, rfl, rfl, rfl, rfl, rfl, rfl, rfl, rfl, rfl, rfl, rfl, trivial⟩ (VO.nil ?_)
                  refine VC.rs ?_
                  refine VO.y rfl (.mv rfl) ?_
                  refine VO.y rfl (.eql rfl rfl) ?_
                  refine VO.y rfl (.mv rfl) ?_
                  refine VO.dec (t := 128) rfl (fun hc30 => ?_) (fun hc30 => ?_)
                  · -- FFFFFFFFT
                    refine VO.gy rfl ⟨_, rfl, rfl⟩ (.mv rfl) ?_
                    refine VO.gy rfl ⟨_, rfl, rfl⟩ (.lenS rfl tsl61) ?_
                    refine VO.gy rfl ⟨_, rfl, rfl⟩ (.eql rfl rfl) ?_
                    refine VO.y rfl (.pT rfl rfl) ?_
                    refine VO.y rfl (.mv rfl) ?_
                    refine VO.dec (t := 133) rfl (fun hc31 => ?_) (fun hc31 => ?_)
                    · -- FFFFFFFFTT
                      refine VO.gy rfl ⟨_, rfl, rfl⟩ (.mv rfl) ?_
                      refine VO.gy rfl ⟨_, rfl, rfl⟩ (.lenS rfl tsl61) ?_
                      refine VO.gy rfl ⟨_, rfl, rfl⟩ (.mv rfl) ?_
                      refine VO.gy rfl ⟨_, rfl, rfl⟩ (.lenS rfl tsl61) ?_
                      refine VO.gy rfl ⟨_, rfl, rfl⟩ (.fa rfl tst72 rfl) ?_
                      refine VO.gy rfl ⟨_, rfl, rfl⟩ (.ld1 102 rfl tk3 rfl (cellsAt_one rfl rfl)) ?_
                      refine VO.gy rfl ⟨_, rfl, rfl⟩ (.sub rfl rfl rfl ⟨by first | omega | (simp only [List.length_append, List.length_nil, List.length_cons, List.length_take, List.length_drop] at *; omega) | (have := (take_len (by omega : (takeOf d0 d1 d2).2 = 0)).2; omega), by first | omega | (simp only [List.length_append, List.length_nil, List.length_cons, List.length_take, List.length_drop] at *; omega) | (have := (take_len (by omega : (takeOf d0 d1 d2).2 = 0)).2; omega)⟩) ?_
                      refine VO.gy rfl ⟨_, rfl, rfl⟩ (.fa rfl tst72 rfl) ?_
                      refine VO.gy rfl ⟨_, rfl, rfl⟩ (.ld1 102 rfl tk61 rfl (cellsAt_one rfl rfl)) ?_
                      refine VO.gy rfl ⟨_, rfl, rfl⟩ (.lenS rfl tsl61) ?_
                      refine VO.gy rfl ⟨_, rfl, rfl⟩ (.add rfl rfl rfl ⟨by first | omega | (simp only [List.length_append, List.length_nil, List.length_cons, List.length_take, List.length_drop] at *; omega) | (have := (take_len (by omega : (takeOf d0 d1 d2).2 = 0)).2; omega), by first | omega | (simp only [List.length_append, List.length_nil, List.length_cons, List.length_take, List.length_drop] at *; omega) | (have := (take_len (by omega : (takeOf d0 d1 d2).2 = 0)).2; omega)⟩) ?_
                      refine VO.gy rfl ⟨_, rfl, rfl⟩ (.maxM rfl rfl) ?_
                      refine VO.gy rfl ⟨_, rfl, rfl⟩ (.eql rfl rfl) ?_
                      refine VO.y rfl (.pT rfl rfl) ?_
                      refine VO.y rfl (.as rfl) ?_
                      refine VO.esub [(0, _), (1, _), (2, _), (5, _), (6, _), (7, _), (8, _), (9, _), (10, _), (12, _), (14, _), (29, _), (38, _), (62, _), (67, _)] ⟨rfl, rfl, rfl, rfl, rfl, rfl, rfl, rfl, rfl, rfl, rfl, rfl, rfl, rfl, rfl, trivial⟩ (VO.nil ?_)
                      refine VC.ret ?_
                      refine ⟨_, _, res_run (rs := [.tmp 6]) rfl (.tmp rfl .nil), fun W_ hI => out_of (l := []) hI [] rfl rfl (mle_refl _) (fun hS_ => ?_)⟩
                      dsimp only [packV]
                      all_goals (first | rfl | (first | exact congrArg Value.bool (decide_eq_true (take_allen (by omega))) | exact congrArg Value.bool (decide_eq_true (by rw [take_bad ‹_›]; rfl))))
                    · -- FFFFFFFFTF
                      have hz : (takeOf d0 d1 d2).2 = 0 := (by omega); exact absurd (by rw [take_again hz]; rfl) hc31
                  · -- FFFFFFFFF
                    have hz : (takeOf d0 d1 d2).2 = 0 := (by omega); exact absurd (by rw [take_again hz]) hc30
end Go.Proofs.Ytfaknkkaegjdaaa
