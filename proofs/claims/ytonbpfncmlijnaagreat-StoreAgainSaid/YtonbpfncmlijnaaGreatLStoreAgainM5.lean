/- Part 5 of the proof of LStoreAgain: what it needs of the library, the walks and the plain laws. Conditions: those named in each theorem. -/
import Derived.Test.YtonbpfncmlijnaaGreatLStoreAgainM4
set_option linter.unusedVariables false
set_option linter.unusedSimpArgs false
set_option maxRecDepth 4000
namespace Go.Proofs.YtonbpfncmlijnaaGreat
theorem fnOk16 : fnOk Tryz.prog 16 = true := by kernel_rfl
theorem fnOk26 : fnOk Tryz.prog 26 = true := by kernel_rfl
theorem fnOk45 : fnOk Tryz.prog 45 = true := by kernel_rfl
theorem fnOk46 : fnOk Tryz.prog 46 = true := by kernel_rfl
theorem uNoneR_ok (W : World) {l_ : List DRun} {br_ : Bool} {D_ : DdiskDisk} {gd_ : Nat} {g0 : Nat} (h0 : Rd (.ptr TrunRuns) (wm W) [.pointer (some ⟨g0, 0, none⟩)] (g0, ((gd_, D_), br_, l_))) : CallR Tryz.prog 55 [.pointer (some ⟨g0, 0, none⟩)] W (mnil) (fun v m' => v = .bool (decide (False))) := by
  have rp0_k := h0
  obtain ⟨_, rp0_rc, rp0_E, rp0_h, rp0_r⟩ := rp0_k
  obtain ⟨rp0_A2, rp0_c2, rfl, rp0_0, rp0_2⟩ := open_runRuns (x0 := (gd_, D_)) (x1 := br_) (x2 := l_) rp0_r
  dsimp only at rp0_0
  have rp0_r2 := Rd.room rp0_2
  have rp0_b : cellsAt (wm W) g0 0 3 [Value.pointer (some ⟨gd_, 0, none⟩), Value.bool br_, Value.slice rp0_A2 (l_.length) (rp0_c2)] := (cellsAt_one rfl rfl).mono (mone_le rp0_h)
  refine CallR.ofA (n := 12) Tryz.func55 rfl rfl rfl ?_
  refine VC.rs ?_
  refine VO.as ?_
  refine VO.k2 0 2 ?_
  refine VC.rs ?_
  refine VO.mv ?_
  refine VO.y rfl (.pnil rfl rfl Tryz.underlying38 rfl) ?_
  refine VO.mv ?_
  refine VO.gy rfl ⟨_, rfl, rfl⟩ (.mv rfl) ?_
  refine VO.gy rfl ⟨_, rfl, rfl⟩ (.nilp rfl) ?_
  refine VO.gy rfl ⟨_, rfl, rfl⟩ (.fa rfl tst47 rfl) ?_
  refine VO.gy rfl ⟨_, rfl, rfl⟩ (.ld1 0 rfl tk44 rfl (rp0_b.at1 (j := 0) rfl)) ?_
  refine VO.gy rfl ⟨_, rfl, rfl⟩ (.pnil rfl rfl Tryz.underlying44 rfl) ?_
  refine VO.y rfl (.pF rfl rfl) ?_
  refine VO.as ?_
  refine VO.k2 0 2 ?_
  refine VC.ret ?_
  refine ⟨_, _, res_run (rs := [.tmp 2]) rfl (.tmp rfl .nil), fun W_ hI => out_of (l := []) hI [] rfl rfl (mle_refl _) (fun hS_ => ?_)⟩
  dsimp only [packV]
  all_goals (first | rfl | (simp [*]; done))
theorem uEndR_ok (W : World) {l_ : List DRun} {br_ : Bool} {D_ : DdiskDisk} {gd_ : Nat} {g0 : Nat} (h0 : Rd (.ptr TrunRuns) (wm W) [.pointer (some ⟨g0, 0, none⟩)] (g0, ((gd_, D_), br_, l_))) (e0 : okU l_) : CallR Tryz.prog 21 [.pointer (some ⟨g0, 0, none⟩)] W (mnil) (fun v m' => v = .int .i64 (endR l_)) := by
  have hll := okU_len e0
  have rp0_k := h0
  obtain ⟨_, rp0_rc, rp0_E, rp0_h, rp0_r⟩ := rp0_k
  obtain ⟨rp0_A2, rp0_c2, rfl, rp0_0, rp0_2⟩ := open_runRuns (x0 := (gd_, D_)) (x1 := br_) (x2 := l_) rp0_r
  dsimp only at rp0_0
  have rp0_r2 := Rd.room rp0_2
  have rp0_b : cellsAt (wm W) g0 0 3 [Value.pointer (some ⟨gd_, 0, none⟩), Value.bool br_, Value.slice rp0_A2 (l_.length) (rp0_c2)] := (cellsAt_one rfl rfl).mono (mone_le rp0_h)
  refine CallR.ofA (n := 26) Tryz.func21 rfl rfl rfl ?_
  refine VC.rs ?_
  refine VO.as ?_
  refine VO.k2 0 2 ?_
  refine VC.seq ?_
  refine VC.rs ?_
  refine VO.mv ?_
  refine VO.callN 101 rfl fnOk55 rfl (fun W hW => uNoneR_ok W (Rd.mono h0 (hW.at (i := 0) rfl))) (fun v1 m1 hv1 => ?_)
  try dsimp only at hv1
  subst hv1
  refine VO.mv ?_
  refine VO.dec (t := 5) rfl (fun hc2 => ?_) (fun hc2 => ?_)
  · -- T
    exact hc2.elim
  · -- F
    refine VO.gy rfl ⟨_, rfl, rfl⟩ (.mv rfl) ?_
    refine VO.gy rfl ⟨_, rfl, rfl⟩ (.nilp rfl) ?_
    refine VO.gy rfl ⟨_, rfl, rfl⟩ (.fa rfl tst47 rfl) ?_
    refine VO.gy rfl ⟨_, rfl, rfl⟩ (.ld1 0 rfl tk45 rfl (rp0_b.at1 (j := 2) rfl)) ?_
    refine VO.gy rfl ⟨_, rfl, rfl⟩ (.lenS rfl tsl45) ?_
    refine VO.gy rfl ⟨_, rfl, rfl⟩ (.eql rfl rfl) ?_
    refine VO.y rfl (.pF rfl rfl) ?_
    refine VO.k3 0 2 12 ?_
    refine VC.cond rfl (fun hc3 => ?_) (fun hc3 => ?_)
    · -- FT
      refine VC.rs ?_
      refine VO.as ?_
      refine VO.kp [0] [(0, wm W)] ?_
      refine VO.k3 0 2 12 ?_
      refine VC.ret ?_
      refine outR ?_
      refine ⟨_, _, res_run (rs := [.tmp 2]) rfl (.tmp rfl .nil), fun W_ hI => out_of (l := []) hI [] rfl rfl (mle_refl _) (fun hS_ => ?_)⟩
      dsimp only [packV]
      all_goals (first | rfl | (first | exact congrArg (Value.int _) (endR_at ‹l_[_]? = some _› (by omega)).symm | exact congrArg (Value.int _) (endR_nil (by omega)).symm | exact congrArg (Value.int _) (endR_nil (not_not_intro (by assumption))).symm))
    · -- FF
      refine VC.skip ?_
      refine outN ?_
      refine VC.seq ?_
      refine VC.regD _ 10 [(0, true), (1, true), (2, true), (3, true), (4, true), (5, true), (6, true), (7, true), (8, true), (9, true)] follows (by kernel_rfl) (fun _ h => h.sub [101, 0]) ?_
      refine VD.y rfl rfl (.inl rfl) (.mv rfl) ?_
      refine VD.y rfl rfl (.inl rfl) (.nilp rfl) ?_
      refine VD.y rfl rfl (.inl rfl) (.fa rfl tst47 rfl) ?_
      refine VD.y rfl rfl (.inl rfl) (.ld1 0 rfl tk45 rfl (rp0_b.at1 (j := 2) rfl)) ?_
      refine VD.y rfl rfl (.inl rfl) (.mv rfl) ?_
      refine VD.y rfl rfl (.inl rfl) (.nilp rfl) ?_
      refine VD.y rfl rfl (.inl rfl) (.fa rfl tst47 rfl) ?_
      refine VD.y rfl rfl (.inl rfl) (.ld1 0 rfl tk45 rfl (rp0_b.at1 (j := 2) rfl)) ?_
      refine VD.y rfl rfl (.inl rfl) (.lenS rfl tsl45) ?_
      refine VD.y rfl rfl (.inl rfl) (.sub rfl rfl rfl ⟨bd, bd⟩) ?_
      refine VD.nil rfl ?_ rfl
      obtain ⟨x4, hx4⟩ : ∃ z_, (l_)[(((l_.length : Nat) : Int) - 1).toNat]? = some z_ := ⟨_, List.getElem?_eq_getElem bd⟩
      obtain ⟨gg4, oo4, ec4, ea4, hce4, hre4⟩ := rp0_2.elem hx4
      cases ea4
      obtain ⟨q4_A2, q4_c2, rfl, q4_0, q4_1, q4_2⟩ := open_Run (x0 := x4.1) (x1 := x4.2.1) (x2 := x4.2.2) hre4
      simp only [inK] at q4_0
      simp only [inK] at q4_1
      have q4_r2 := Rd.room q4_2
      refine VO.y rfl (.ixI ((((l_.length : Nat) : Int) - 1).toNat) rfl rfl tsl45 bd bd) ?_
      refine VO.y rfl (.fa rfl tst92 rfl) ?_
      refine VO.y rfl (.ld1 0 rfl tk3 rfl (hce4.at1 (j := 1) rfl)) ?_
      refine VO.as ?_
      refine VO.kp [0] [(0, wm W)] ?_
      refine VO.k3 0 2 12 ?_
      refine outN ?_
      refine VC.ret ?_
      refine ⟨_, _, res_run (rs := [.tmp 2]) rfl (.tmp rfl .nil), fun W_ hI => out_of (l := []) hI [] rfl rfl (mle_refl _) (fun hS_ => ?_)⟩
      dsimp only [packV]
      all_goals (first | rfl | (first | exact congrArg (Value.int _) (endR_at ‹l_[_]? = some _› (by omega)).symm | exact congrArg (Value.int _) (endR_nil (by omega)).symm | exact congrArg (Value.int _) (endR_nil (not_not_intro (by assumption))).symm))
theorem sNoneR_ok (W : World) {r_ : List DCommit} {l_ : List DRun} {br_ : Bool} {D_ : DdiskDisk} {gd_ : Nat} {gu_ : Nat} {T_ : DtableTable} {gt_ : Nat} {g0 : Nat} (h0 : Rd (.ptr TstoreStore) (wm W) [.pointer (some ⟨g0, 0, none⟩)] (g0, ((gt_, T_), (gu_, ((gd_, D_), br_, l_)), r_))) : CallR Tryz.prog 40 [.pointer (some ⟨g0, 0, none⟩)] W (mnil) (fun v m' => v = .bool (decide (False))) := by
  have rp0_k := h0
  obtain ⟨_, rp0_rc, rp0_E, rp0_h, rp0_r⟩ := rp0_k
  obtain ⟨rp0_A2, rp0_c2, rfl, rp0_0, rp0_1, rp0_2⟩ := open_storeStore (x0 := (gt_, T_)) (x1 := (gu_, ((gd_, D_), br_, l_))) (x2 := r_) rp0_r
  dsimp only at rp0_0
  dsimp only at rp0_1
  have rp0_r2 := Rd.room rp0_2
  have rp0_b : cellsAt (wm W) g0 0 3 [Value.pointer (some ⟨gt_, 0, none⟩), Value.pointer (some ⟨gu_, 0, none⟩), Value.slice rp0_A2 (r_.length) (rp0_c2)] := (cellsAt_one rfl rfl).mono (mone_le rp0_h)
  have rp0_1q_k := rp0_1
  obtain ⟨_, rp0_1q_rc, rp0_1q_E, rp0_1q_h, rp0_1q_r⟩ := rp0_1q_k
  obtain ⟨rp0_1q_A2, rp0_1q_c2, rfl, rp0_1q_0, rp0_1q_2⟩ := open_runRuns (x0 := (gd_, D_)) (x1 := br_) (x2 := l_) rp0_1q_r
  dsimp only at rp0_1q_0
  have rp0_1q_r2 := Rd.room rp0_1q_2
  have rp0_1q_b : cellsAt (wm W) gu_ 0 3 [Value.pointer (some ⟨gd_, 0, none⟩), Value.bool br_, Value.slice rp0_1q_A2 (l_.length) (rp0_1q_c2)] := (cellsAt_one rfl rfl).mono (mone_le rp0_1q_h)
  refine CallR.ofA (n := 12) Tryz.func40 rfl rfl rfl ?_
  refine VC.rs ?_
  refine VO.as ?_
  refine VO.k2 0 2 ?_
  refine VC.rs ?_
  refine VO.mv ?_
  refine VO.y rfl (.pnil rfl rfl Tryz.underlying23 rfl) ?_
  refine VO.mv ?_
  refine VO.gy rfl ⟨_, rfl, rfl⟩ (.mv rfl) ?_
  refine VO.gy rfl ⟨_, rfl, rfl⟩ (.nilp rfl) ?_
  refine VO.gy rfl ⟨_, rfl, rfl⟩ (.fa rfl tst40 rfl) ?_
  refine VO.gy rfl ⟨_, rfl, rfl⟩ (.ld1 0 rfl tk38 rfl (rp0_b.at1 (j := 1) rfl)) ?_
  refine VO.gy rfl ⟨_, rfl, rfl⟩ (.pnil rfl rfl Tryz.underlying38 rfl) ?_
  refine VO.y rfl (.pF rfl rfl) ?_
  refine VO.as ?_
  refine VO.k2 0 2 ?_
  refine VC.ret ?_
  refine ⟨_, _, res_run (rs := [.tmp 2]) rfl (.tmp rfl .nil), fun W_ hI => out_of (l := []) hI [] rfl rfl (mle_refl _) (fun hS_ => ?_)⟩
  dsimp only [packV]
  all_goals (first | rfl | (simp [*]; done))
theorem sEndR_ok (W : World) {r_ : List DCommit} {l_ : List DRun} {br_ : Bool} {D_ : DdiskDisk} {gd_ : Nat} {gu_ : Nat} {T_ : DtableTable} {gt_ : Nat} {g0 : Nat} (h0 : Rd (.ptr TstoreStore) (wm W) [.pointer (some ⟨g0, 0, none⟩)] (g0, ((gt_, T_), (gu_, ((gd_, D_), br_, l_)), r_))) (e0 : okU l_) (e1 : r_.length ≤ 2000000) : CallR Tryz.prog 16 [.pointer (some ⟨g0, 0, none⟩)] W (mnil) (fun v m' => v = .int .i64 (endR l_ + ((r_.length : Nat) : Int))) := by
  have hll := okU_len e0
  have rp0_k := h0
  obtain ⟨_, rp0_rc, rp0_E, rp0_h, rp0_r⟩ := rp0_k
  obtain ⟨rp0_A2, rp0_c2, rfl, rp0_0, rp0_1, rp0_2⟩ := open_storeStore (x0 := (gt_, T_)) (x1 := (gu_, ((gd_, D_), br_, l_))) (x2 := r_) rp0_r
  dsimp only at rp0_0
  dsimp only at rp0_1
  have rp0_r2 := Rd.room rp0_2
  have rp0_b : cellsAt (wm W) g0 0 3 [Value.pointer (some ⟨gt_, 0, none⟩), Value.pointer (some ⟨gu_, 0, none⟩), Value.slice rp0_A2 (r_.length) (rp0_c2)] := (cellsAt_one rfl rfl).mono (mone_le rp0_h)
  have rp0_1q_k := rp0_1
  obtain ⟨_, rp0_1q_rc, rp0_1q_E, rp0_1q_h, rp0_1q_r⟩ := rp0_1q_k
  obtain ⟨rp0_1q_A2, rp0_1q_c2, rfl, rp0_1q_0, rp0_1q_2⟩ := open_runRuns (x0 := (gd_, D_)) (x1 := br_) (x2 := l_) rp0_1q_r
  dsimp only at rp0_1q_0
  have rp0_1q_r2 := Rd.room rp0_1q_2
  have rp0_1q_b : cellsAt (wm W) gu_ 0 3 [Value.pointer (some ⟨gd_, 0, none⟩), Value.bool br_, Value.slice rp0_1q_A2 (l_.length) (rp0_1q_c2)] := (cellsAt_one rfl rfl).mono (mone_le rp0_1q_h)
  refine CallR.ofA (n := 16) Tryz.func16 rfl rfl rfl ?_
  refine VC.rs ?_
  refine VO.as ?_
  refine VO.k2 0 2 ?_
  refine VC.seq ?_
  refine VC.rs ?_
  refine VO.mv ?_
  refine VO.callN 101 rfl fnOk40 rfl (fun W hW => sNoneR_ok W (Rd.mono h0 (hW.at (i := 0) rfl))) (fun v1 m1 hv1 => ?_)
  try dsimp only at hv1
  subst hv1
  refine VO.k3 0 2 4 ?_
  refine VC.cond rfl (fun hc2 => ?_) (fun hc2 => ?_)
  · -- T
    exact hc2.elim
  · -- F
    refine VC.skip ?_
    refine outN ?_
    refine VC.seq ?_
    refine VC.regD _ 10 [(0, true), (1, true), (2, true), (3, true), (5, true), (6, true), (7, true), (8, true), (9, true), (4, false)] follows (by kernel_rfl) (fun _ h => h.sub [101, 0]) ?_
    refine VD.y rfl rfl (.inl rfl) (.mv rfl) ?_
    refine VD.y rfl rfl (.inl rfl) (.nilp rfl) ?_
    refine VD.y rfl rfl (.inl rfl) (.fa rfl tst40 rfl) ?_
    refine VD.y rfl rfl (.inl rfl) (.ld1 0 rfl tk38 rfl (rp0_b.at1 (j := 1) rfl)) ?_
    refine VD.y rfl rfl (.inl rfl) (.mv rfl) ?_
    refine VD.y rfl rfl (.inl rfl) (.nilp rfl) ?_
    refine VD.y rfl rfl (.inl rfl) (.fa rfl tst40 rfl) ?_
    refine VD.y rfl rfl (.inl rfl) (.ld1 0 rfl tk27 rfl (rp0_b.at1 (j := 2) rfl)) ?_
    refine VD.y rfl rfl (.inl rfl) (.lenS rfl tsl27) ?_
    refine VD.callN 103 rfl rfl (.inl rfl) fnOk21 rfl (fun _ h => h.sub [101, 0]) (fun W hW => uEndR_ok W (Rd.mono rp0_1 (hW.at (i := 0) rfl)) (by assumption)) (fun v3 m3 hv3 => ?_)
    try dsimp only at hv3
    subst hv3
    refine VD.nil rfl ?_ rfl
    refine VO.y rfl (.add rfl rfl rfl ⟨bd, bd⟩) ?_
    refine VO.as ?_
    refine VO.kp [0] [(0, wm W)] ?_
    refine VO.k3 0 2 4 ?_
    refine outN ?_
    refine VC.ret ?_
    refine ⟨_, _, res_run (rs := [.tmp 2]) rfl (.tmp rfl .nil), fun W_ hI => out_of (l := []) hI [] rfl rfl (mle_refl _) (fun hS_ => ?_)⟩
    dsimp only [packV]
    all_goals (first | rfl | (simp [*]; done))
theorem fin0_sApply_ok_ {P : Prop} (h : P := by first | (rw [sApply_chk (by assumption), e0]; done) | (rw [sApply_ord (by assumption) (.inl (by assumption)), e0]; done) | (rw [sApply_ord (by assumption) (.inr ⟨by omega, by rw [lastOr_at ‹r_[_]? = some _› (by omega)]; assumption⟩), e0]; done) | (rw [sApply_ok (by assumption) (by assumption) (by rintro ⟨q1_, q2_⟩; first | omega | (rw [lastOr_at ‹r_[_]? = some _› (by omega)] at q2_; contradiction))]; done)) : P := h
theorem fin1_sApply_ok_ {P : Prop} (h : P := by first | (rw [sApply_chk (by assumption)]) | (rw [sApply_ord (by assumption) (.inl (by assumption))]) | (rw [sApply_ord (by assumption) (.inr ⟨by omega, by rw [lastOr_at ‹r_[_]? = some _› (by omega)]; assumption⟩)]) | (rw [sApply_ok (by assumption) (by assumption) (by rintro ⟨q1_, q2_⟩; first | omega | (rw [lastOr_at ‹r_[_]? = some _› (by omega)] at q2_; contradiction))])) : P := h
theorem fin2_sApply_ok_ {P : Prop} (h : P := by first | omega | (simp only [List.length_append, List.length_nil, List.length_cons, List.length_take, List.length_drop] at *; omega) | (have h_ := cCheck_ok (Decidable.not_not.1 ‹¬ ¬ cCheck d1 = 0›); have h2_ := batchCheck_ok h_.2.2.2.2; omega)) : P := h
theorem sApply_ok_ (W : World) {r_ : List DCommit} {l_ : List DRun} {br_ : Bool} {D_ : DdiskDisk} {gd_ : Nat} {gu_ : Nat} {T_ : DtableTable} {gt_ : Nat} {m0 : Mem} (hm : mle (m0) (wm W)) {g0 : Nat} (h0 : Ow (.ptr TstoreStore) m0 [.pointer (some ⟨g0, 0, none⟩)] (g0, ((gt_, T_), (gu_, ((gd_, D_), br_, l_)), r_))) {v1 : List Value} {d1 : DCommit} (h1 : Rd TCommit (mout (wm W) (m0)) v1 d1) (e0 : T_ = sT r_) (e1 : okU l_) (e2 : r_.length ≤ 1000000) : CallR Tryz.prog 15 [.pointer (some ⟨g0, 0, none⟩), .agg v1.toArray] W (m0) (fun v m' => v = .int .i64 ((sApply l_ r_ d1).2) ∧ Ow (.ptr TstoreStore) m' [.pointer (some ⟨g0, 0, none⟩)] (g0, ((gt_, (sT (sApply l_ r_ d1).1)), (gu_, ((gd_, D_), br_, l_)), (sApply l_ r_ d1).1))) := by
  have hll := okU_len e1
  obtain ⟨p1_A2, p1_c2, rfl, p1_0, p1_1, p1_2⟩ := open_Commit (x0 := d1.1) (x1 := d1.2.1) (x2 := d1.2.2) h1
  simp only [inK] at p1_0
  simp only [inK] at p1_1
  have p1_r2 := Rd.room p1_2
  refine CallR.ofB (n := 46) hm Tryz.func15 rfl rfl rfl ?_
  refine VC.rs ?_
  refine VO.box (cs := [Value.int .i64 (d1.1), Value.int .i64 (d1.2.1), Value.slice p1_A2 (d1.2.2.length) (p1_c2)]) 102 rfl rfl rfl (fun g1 => ?_)
  refine VO.as ?_
  refine VO.k4 0 1 3 4 ?_
  refine VC.seq ?_
  refine VC.rs ?_
  refine VO.mv ?_
  refine VO.call 1 rfl fnOk40 rfl rfl (fun W hW => sNone_ok W (hW.at (i := 1) rfl) h0) (fun v3 m3 hv3 => ?_)
  try dsimp only at hv3
  obtain ⟨rfl, w3_0⟩ := hv3
  refine VO.k5 0 1 3 4 8 ?_
  refine VC.cond rfl (fun hc4 => ?_) (fun hc4 => ?_)
  · -- T
    exact hc4.elim
  · -- F
    refine VC.skip ?_
    refine outN ?_
    refine VC.seq ?_
    refine VC.rs ?_
    refine VO.y rfl (.ldA 102 rfl tk36 rfl (cellsAt_one rfl rfl)) ?_
    refine VO.callN 105 rfl fnOk49 rfl (fun W hW => cCheck_ok_ W (Rd.mono h1 (hW.at (i := 0) rfl))) (fun v5 m5 hv5 => ?_)
    subst hv5
    have hfa6 := cCheck_range d1
    refine VO.as ?_
    refine VO.kp [1, 102, 0] [(1, m3), (102, mone g1 (.cells [Value.int .i64 (d1.1), Value.int .i64 (d1.2.1), Value.slice p1_A2 (d1.2.2.length) (p1_c2)].toArray 36 (0, 0))), (0, mout (wm W) (m0))] ?_
    refine VO.k6 0 1 3 4 5 8 ?_
    refine VC.rs ?_
    refine VO.mv ?_
    refine VO.y rfl (.neq rfl rfl) ?_
    refine VO.k7 0 1 3 4 5 8 12 ?_
    refine VC.cond rfl (fun hc7 => ?_) (fun hc7 => ?_)
    · -- FT
      refine VC.rs ?_
      refine VO.mv ?_
      refine VO.as ?_
      refine VO.k7 0 1 3 4 5 8 12 ?_
      refine VC.ret ?_
      refine outR ?_
      refine ⟨_, _, res_run (rs := [.tmp 4]) rfl (.tmp rfl .nil), fun W_ hI => out_of (l := [m3]) hI [1] rfl rfl (mle_refl _) (fun hS_ => ?_)⟩
      dsimp only [packV]
      have hm0_ : (((gt_, (sT (sApply l_ r_ d1).1)), (gu_, ((gd_, D_), br_, l_)), (sApply l_ r_ d1).1) : DstoreStore) = ((gt_, T_), (gu_, ((gd_, D_), br_, l_)), r_) := by first | rfl | (exact fin0_sApply_ok_)
      refine ⟨?_, ?_⟩
      rotate_left
      · rw [hm0_]; exact (Ow.up w3_0 (hS_.1 _ (.head _)))
      all_goals (first | rfl | (exact fin1_sApply_ok_))
    · -- FF
      refine VC.skip ?_
      refine outN ?_
      refine VC.rs ?_
      refine VO.mv ?_
      refine VO.y rfl (.nilp rfl) ?_
      refine VO.y rfl (.fa rfl tst40 rfl) ?_
      obtain ⟨q8_E, q8_A2, q8_c2, q8_n0, q8_n1, q8_n2, _, q8_S, q8_0, q8_1, q8_2⟩ := openP_storeStore (x0 := (gt_, T_)) (x1 := (gu_, ((gd_, D_), br_, l_))) (x2 := r_) w3_0
      dsimp only at q8_0
      dsimp only at q8_1
      have q8_r2 := q8_2.rm
      refine VO.inv _ (fun _ h => h.parts (i := 1) rfl q8_S [112, 109, 110, 111]) ?_
      refine VO.y rfl (.ld1 112 rfl tk27 rfl (cellsAt_one rfl rfl)) ?_
      refine VO.y rfl (.lenS rfl tsl27) ?_
      refine VO.as ?_
      refine VO.clsP 113 [112, 109, 110, 111] rfl (fun hg13 => (mkP_storeStore (gt_, T_) (gu_, ((gd_, D_), br_, l_)) r_ hg13 q8_0 q8_1 q8_2)) (fun mc13 ho13 => ?_)
      refine VO.k8 0 1 3 4 5 6 8 12 ?_
      refine VC.seq ?_
      refine VC.seq ?_
      obtain ⟨q14_E, q14_A2, q14_c2, q14_n0, q14_n1, q14_n2, _, q14_S, q14_0, q14_1, q14_2⟩ := openP_storeStore (x0 := (gt_, T_)) (x1 := (gu_, ((gd_, D_), br_, l_))) (x2 := r_) ho13
      dsimp only at q14_0
      dsimp only at q14_1
      have q14_r2 := q14_2.rm
      refine VC.inv _ (fun _ h => h.parts (i := 113) rfl q14_S [118, 115, 116, 117]) ?_
      refine VC.regD _ 21 [(0, true), (1, true), (2, true), (3, true), (4, false), (5, true), (6, true), (7, true), (8, true), (9, true), (10, true), (11, true), (12, true), (13, true), (14, true), (15, true), (16, true), (17, true), (18, true), (19, true), (20, true)] follows (by kernel_rfl) (fun _ h => h.sub [118, 115, 116, 117, 102, 0]) ?_
      refine VD.y rfl rfl (.inl rfl) (.fa rfl tst36 rfl) ?_
      refine VD.y rfl rfl (.inl rfl) (.ld1 102 rfl tk3 rfl (cellsAt_one rfl rfl)) ?_
      refine VD.y rfl rfl (.inl rfl) (.sub rfl rfl rfl ⟨by exact fin2_sApply_ok_, by exact fin2_sApply_ok_⟩) ?_
      refine VD.y rfl rfl (.inl rfl) (.mv rfl) ?_
      refine VD.callN 119 rfl rfl (.inl rfl) fnOk16 rfl (fun _ h => h.sub [118, 115, 116, 117, 102, 0]) (fun W hW => sEndR_ok W (show Rd (.ptr TstoreStore) _ _ (g0, ((gt_, T_), (gu_, ((gd_, D_), br_, l_)), r_)) from ⟨rfl, _, _, (hW.at (i := 118) rfl) _ _ (mone_self _ _), (mk_storeStore (m := wm W) (gt_, T_) (gu_, ((gd_, D_), br_, l_)) r_ (Ow.rd q14_0 (hW.at (i := 115) rfl)) (Ow.rd q14_1 (hW.at (i := 116) rfl)) (Ow.rd q14_2 (hW.at (i := 117) rfl)))⟩) (by assumption) (by exact fin2_sApply_ok_)) (fun v19 m19 hv19 => ?_)
      try dsimp only at hv19
      subst hv19
      refine VD.y rfl rfl (.inl rfl) (.neq rfl rfl) ?_
      refine VD.y rfl rfl (.inl rfl) (.mv rfl) ?_
      refine VD.dec (s := 25) rfl (fun hc20 => ?_) (fun hc20 => ?_)
      · -- FFT
        refine VD.gn rfl rfl (.inl ⟨_, rfl, rfl⟩) ?_
        refine VD.gn rfl rfl (.inl ⟨_, rfl, rfl⟩) ?_
        refine VD.gn rfl rfl (.inl ⟨_, rfl, rfl⟩) ?_
        refine VD.gn rfl rfl (.inr ⟨_, rfl, rfl⟩) ?_
        refine VD.gn rfl rfl (.inr ⟨_, rfl, rfl⟩) ?_
        refine VD.gn rfl rfl (.inr ⟨_, rfl, rfl⟩) ?_
        refine VD.gn rfl rfl (.inr ⟨_, rfl, rfl⟩) ?_
        refine VD.gn rfl rfl (.inr ⟨_, rfl, rfl⟩) ?_
        refine VD.gn rfl rfl (.inr ⟨_, rfl, rfl⟩) ?_
        refine VD.gn rfl rfl (.inr ⟨_, rfl, rfl⟩) ?_
        refine VD.gn rfl rfl (.inr ⟨_, rfl, rfl⟩) ?_
        refine VD.gn rfl rfl (.inr ⟨_, rfl, rfl⟩) ?_
        refine VD.gn rfl rfl (.inr ⟨_, rfl, rfl⟩) ?_
        refine VD.gn rfl rfl (.inr ⟨_, rfl, rfl⟩) ?_
        refine VD.nil rfl ?_ rfl
        refine VO.gn rfl (.inr ⟨_, rfl, rfl⟩) ?_
        refine VO.gN ?_
        refine VO.y rfl (.pT rfl rfl) ?_
        refine VO.clsP 121 [118, 115, 116, 117] rfl (fun hg21 => (mkP_storeStore (gt_, T_) (gu_, ((gd_, D_), br_, l_)) r_ hg21 q14_0 q14_1 q14_2)) (fun mc21 ho21 => ?_)
        refine VO.kp [121, 102, 0] [(121, mc21), (102, mone g1 (.cells [Value.int .i64 (d1.1), Value.int .i64 (d1.2.1), Value.slice p1_A2 (d1.2.2.length) (p1_c2)].toArray 36 (0, 0))), (0, mout (wm W) (m0))] ?_
        refine VO.k9 0 1 3 4 5 6 8 12 42 ?_
        refine outN ?_
        refine VC.condT rfl ?_
        refine VC.rs ?_
        refine VO.as ?_
        refine VO.k9 0 1 3 4 5 6 8 12 42 ?_
        refine VC.ret ?_
        refine outR ?_
        refine ⟨_, _, res_run (rs := [.tmp 4]) rfl (.tmp rfl .nil), fun W_ hI => out_of (l := [mc21]) hI [121] rfl rfl (mle_refl _) (fun hS_ => ?_)⟩
        dsimp only [packV]
        have hm0_ : (((gt_, (sT (sApply l_ r_ d1).1)), (gu_, ((gd_, D_), br_, l_)), (sApply l_ r_ d1).1) : DstoreStore) = ((gt_, T_), (gu_, ((gd_, D_), br_, l_)), r_) := by first | rfl | (exact fin0_sApply_ok_)
        refine ⟨?_, ?_⟩
        rotate_left
        · rw [hm0_]; exact (Ow.up ho21 (hS_.1 _ (.head _)))
        all_goals (first | rfl | (exact fin1_sApply_ok_))
      · -- FFF
        refine VD.y rfl rfl (.inr ⟨_, _, rfl, _, rfl, rfl⟩) (.mv rfl) ?_
        refine VD.y rfl rfl (.inr ⟨_, _, rfl, _, rfl, rfl⟩) (.gtr rfl rfl) ?_
        refine VD.y rfl rfl (.inr ⟨_, _, rfl, _, rfl, rfl⟩) (.mv rfl) ?_
        refine VD.dec (s := 28) rfl (fun hc22 => ?_) (fun hc22 => ?_)
        · -- FFFT
          refine VD.y rfl rfl (.inr ⟨_, _, rfl, _, rfl, rfl⟩) (.fa rfl tst36 rfl) ?_
          refine VD.y rfl rfl (.inr ⟨_, _, rfl, _, rfl, rfl⟩) (.ld1 102 rfl tk3 rfl (cellsAt_one rfl rfl)) ?_
          refine VD.y rfl rfl (.inr ⟨_, _, rfl, _, rfl, rfl⟩) (.mv rfl) ?_
          refine VD.y rfl rfl (.inr ⟨_, _, rfl, _, rfl, rfl⟩) (.nilp rfl) ?_
          refine VD.y rfl rfl (.inr ⟨_, _, rfl, _, rfl, rfl⟩) (.fa rfl tst40 rfl) ?_
          refine VD.y rfl rfl (.inr ⟨_, _, rfl, _, rfl, rfl⟩) (.ld1 118 rfl tk27 rfl (cellsAt_one rfl rfl)) ?_
          refine VD.y rfl rfl (.inr ⟨_, _, rfl, _, rfl, rfl⟩) (.mv rfl) ?_
          refine VD.y rfl rfl (.inr ⟨_, _, rfl, _, rfl, rfl⟩) (.sub rfl rfl rfl ⟨by exact fin2_sApply_ok_, by exact fin2_sApply_ok_⟩) ?_
          obtain ⟨x23, hx23⟩ : ∃ z_, (r_)[(((r_.length : Nat) : Int) - 1).toNat]? = some z_ := ⟨_, List.getElem?_eq_getElem (by exact fin2_sApply_ok_)⟩
          obtain ⟨gg23, oo23, ec23, ea23, hce23, hre23⟩ := (Ow.rd q14_2 (mle_refl _)).elem hx23
          cases ea23
          obtain ⟨q23_A2, q23_c2, rfl, q23_0, q23_1, q23_2⟩ := open_Commit (x0 := x23.1) (x1 := x23.2.1) (x2 := x23.2.2) hre23
          simp only [inK] at q23_0
          simp only [inK] at q23_1
          have q23_r2 := Rd.room q23_2
          refine VD.y rfl rfl (.inr ⟨_, _, rfl, _, rfl, rfl⟩) (.ixI ((((r_.length : Nat) : Int) - 1).toNat) rfl rfl tsl27 (by exact fin2_sApply_ok_) (by exact fin2_sApply_ok_)) ?_
          refine VD.y rfl rfl (.inr ⟨_, _, rfl, _, rfl, rfl⟩) (.fa rfl tst36 rfl) ?_
          refine VD.y rfl rfl (.inr ⟨_, _, rfl, _, rfl, rfl⟩) (.ld1 117 rfl tk3 rfl (hce23.at1 (j := 0) rfl)) ?_
          refine VD.nil rfl ?_ rfl
          refine VO.gy rfl ⟨_, rfl, rfl⟩ (.lss rfl rfl) ?_
          refine VO.gy rfl ⟨_, rfl, rfl⟩ (.pT rfl rfl) ?_
          refine VO.y rfl (.pF rfl rfl) ?_
          refine VO.clsP 124 [118, 115, 116, 117] rfl (fun hg24 => (mkP_storeStore (gt_, T_) (gu_, ((gd_, D_), br_, l_)) r_ hg24 q14_0 q14_1 q14_2)) (fun mc24 ho24 => ?_)
          refine VO.kp [124, 102, 0] [(124, mc24), (102, mone g1 (.cells [Value.int .i64 (d1.1), Value.int .i64 (d1.2.1), Value.slice p1_A2 (d1.2.2.length) (p1_c2)].toArray 36 (0, 0))), (0, mout (wm W) (m0))] ?_
          refine VO.k9 0 1 3 4 5 6 8 12 42 ?_
          refine outN ?_
          refine VC.cond rfl (fun hc25 => ?_) (fun hc25 => ?_)
          · -- FFFTT
            refine VC.rs ?_
            refine VO.as ?_
            refine VO.k9 0 1 3 4 5 6 8 12 42 ?_
            refine VC.ret ?_
            refine outR ?_
            refine ⟨_, _, res_run (rs := [.tmp 4]) rfl (.tmp rfl .nil), fun W_ hI => out_of (l := [mc24]) hI [124] rfl rfl (mle_refl _) (fun hS_ => ?_)⟩
            dsimp only [packV]
            have hm0_ : (((gt_, (sT (sApply l_ r_ d1).1)), (gu_, ((gd_, D_), br_, l_)), (sApply l_ r_ d1).1) : DstoreStore) = ((gt_, T_), (gu_, ((gd_, D_), br_, l_)), r_) := by first | rfl | (exact fin0_sApply_ok_)
            refine ⟨?_, ?_⟩
            rotate_left
            · rw [hm0_]; exact (Ow.up ho24 (hS_.1 _ (.head _)))
            all_goals (first | rfl | (exact fin1_sApply_ok_))
          · -- FFFTF
            refine VC.skip ?_
            refine outN ?_
            refine VC.rs ?_
            refine VO.mv ?_
            refine VO.y rfl (.ldA 102 rfl tk36 rfl (cellsAt_one rfl rfl)) ?_
            refine VO.call 124 rfl fnOk45 rfl rfl (fun W hW => sTake_ok W (hW.at (i := 124) rfl) ho24 (Rd.mono h1 (hW.out (i := 124) (j := 0) rfl rfl)) (by first | assumption | rfl) (by exact fin2_sApply_ok_) (by exact fin2_sApply_ok_)) (fun v26 m26 hv26 => ?_)
            try dsimp only at hv26
            obtain ⟨rfl, w26_0⟩ := hv26
            refine VO.k9 0 1 3 4 5 6 8 12 42 ?_
            refine VC.rs ?_
            refine VO.as ?_
            refine VO.k9 0 1 3 4 5 6 8 12 42 ?_
            refine VC.ret ?_
            refine ⟨_, _, res_run (rs := [.tmp 4]) rfl (.tmp rfl .nil), fun W_ hI => out_of (l := [m26]) hI [124] rfl rfl (mle_refl _) (fun hS_ => ?_)⟩
            dsimp only [packV]
            have hm0_ : (((gt_, (sT (sApply l_ r_ d1).1)), (gu_, ((gd_, D_), br_, l_)), (sApply l_ r_ d1).1) : DstoreStore) = ((gt_, (sT (r_ ++ [d1]))), (gu_, ((gd_, D_), br_, l_)), r_ ++ [d1]) := by first | rfl | (exact fin0_sApply_ok_)
            refine ⟨?_, ?_⟩
            rotate_left
            · rw [hm0_]; exact (Ow.up w26_0 (hS_.1 _ (.head _)))
            all_goals (first | rfl | (exact fin1_sApply_ok_))
        · -- FFFF
          refine VD.gn rfl rfl (.inl ⟨_, rfl, rfl⟩) ?_
          refine VD.gn rfl rfl (.inl ⟨_, rfl, rfl⟩) ?_
          refine VD.gn rfl rfl (.inl ⟨_, rfl, rfl⟩) ?_
          refine VD.gn rfl rfl (.inl ⟨_, rfl, rfl⟩) ?_
          refine VD.gn rfl rfl (.inl ⟨_, rfl, rfl⟩) ?_
          refine VD.gn rfl rfl (.inl ⟨_, rfl, rfl⟩) ?_
          refine VD.gn rfl rfl (.inl ⟨_, rfl, rfl⟩) ?_
          refine VD.gn rfl rfl (.inl ⟨_, rfl, rfl⟩) ?_
          refine VD.gn rfl rfl (.inl ⟨_, rfl, rfl⟩) ?_
          refine VD.gn rfl rfl (.inl ⟨_, rfl, rfl⟩) ?_
          refine VD.gn rfl rfl (.inl ⟨_, rfl, rfl⟩) ?_
          refine VD.nil rfl ?_ rfl
          refine VO.gN ?_
          refine VO.gy rfl ⟨_, rfl, rfl⟩ (.pF rfl rfl) ?_
          refine VO.y rfl (.pF rfl rfl) ?_
          refine VO.clsP 127 [118, 115, 116, 117] rfl (fun hg27 => (mkP_storeStore (gt_, T_) (gu_, ((gd_, D_), br_, l_)) r_ hg27 q14_0 q14_1 q14_2)) (fun mc27 ho27 => ?_)
          refine VO.kp [127, 102, 0] [(127, mc27), (102, mone g1 (.cells [Value.int .i64 (d1.1), Value.int .i64 (d1.2.1), Value.slice p1_A2 (d1.2.2.length) (p1_c2)].toArray 36 (0, 0))), (0, mout (wm W) (m0))] ?_
          refine VO.k9 0 1 3 4 5 6 8 12 42 ?_
          refine outN ?_
          refine VC.condF rfl ?_
          refine VC.skip ?_
          refine outN ?_
          refine VC.rs ?_
          refine VO.mv ?_
          refine VO.y rfl (.ldA 102 rfl tk36 rfl (cellsAt_one rfl rfl)) ?_
          refine VO.call 127 rfl fnOk45 rfl rfl (fun W hW => sTake_ok W (hW.at (i := 127) rfl) ho27 (Rd.mono h1 (hW.out (i := 127) (j := 0) rfl rfl)) (by first | assumption | rfl) (by exact fin2_sApply_ok_) (by exact fin2_sApply_ok_)) (fun v28 m28 hv28 => ?_)
          try dsimp only at hv28
          obtain ⟨rfl, w28_0⟩ := hv28
          refine VO.k9 0 1 3 4 5 6 8 12 42 ?_
          refine VC.rs ?_
          refine VO.as ?_
          refine VO.k9 0 1 3 4 5 6 8 12 42 ?_
          refine VC.ret ?_
          refine ⟨_, _, res_run (rs := [.tmp 4]) rfl (.tmp rfl .nil), fun W_ hI => out_of (l := [m28]) hI [127] rfl rfl (mle_refl _) (fun hS_ => ?_)⟩
          dsimp only [packV]
          have hm0_ : (((gt_, (sT (sApply l_ r_ d1).1)), (gu_, ((gd_, D_), br_, l_)), (sApply l_ r_ d1).1) : DstoreStore) = ((gt_, (sT (r_ ++ [d1]))), (gu_, ((gd_, D_), br_, l_)), r_ ++ [d1]) := by first | rfl | (exact fin0_sApply_ok_)
          refine ⟨?_, ?_⟩
          rotate_left
          · rw [hm0_]; exact (Ow.up w28_0 (hS_.1 _ (.head _)))
          all_goals (first | rfl | (exact fin1_sApply_ok_))
theorem sGet_ok (W : World) {r_ : List DCommit} {l_ : List DRun} {br_ : Bool} {D_ : DdiskDisk} {gd_ : Nat} {gu_ : Nat} {T_ : DtableTable} {gt_ : Nat} {m0 : Mem} (hm : mle (m0) (wm W)) {g0 : Nat} (h0 : Ow (.ptr TstoreStore) m0 [.pointer (some ⟨g0, 0, none⟩)] (g0, ((gt_, T_), (gu_, ((gd_, D_), br_, l_)), r_))) (d1 : List UInt8) (h1 : d1.length ≤ maxLen) (e0 : T_ = sT r_) (e1 : okU l_) : CallR Tryz.prog 13 [.pointer (some ⟨g0, 0, none⟩), str d1] W (m0) (fun v m' => v = .tuple #[str ((sGet l_ r_ d1).1), .bool ((sGet l_ r_ d1).2)] ∧ Ow (.ptr TstoreStore) m' [.pointer (some ⟨g0, 0, none⟩)] (g0, ((gt_, T_), (gu_, ((gd_, D_), br_, l_)), r_))) := by
  have h1' := h1; simp only [maxLen] at h1'
  refine CallR.ofB (n := 35) hm Tryz.func13 rfl rfl rfl ?_
  refine VC.rs ?_
  refine VO.as ?_
  refine VO.as ?_
  refine VO.k4 0 1 4 5 ?_
  refine VC.seq ?_
  refine VC.rs ?_
  refine VO.mv ?_
  refine VO.call 1 rfl fnOk40 rfl rfl (fun W hW => sNone_ok W (hW.at (i := 1) rfl) h0) (fun v1 m1 hv1 => ?_)
  try dsimp only at hv1
  obtain ⟨rfl, w1_0⟩ := hv1
  refine VO.k5 0 1 4 5 10 ?_
  refine VC.cond rfl (fun hc2 => ?_) (fun hc2 => ?_)
  · -- T
    exact hc2.elim
  · -- F
    refine VC.skip ?_
    refine outN ?_
    refine VC.rs ?_
    refine VO.mv ?_
    refine VO.y rfl (.nilp rfl) ?_
    refine VO.y rfl (.fa rfl tst40 rfl) ?_
    obtain ⟨q3_E, q3_A2, q3_c2, q3_n0, q3_n1, q3_n2, _, q3_S, q3_0, q3_1, q3_2⟩ := openP_storeStore (x0 := (gt_, T_)) (x1 := (gu_, ((gd_, D_), br_, l_))) (x2 := r_) w1_0
    dsimp only at q3_0
    dsimp only at q3_1
    have q3_r2 := q3_2.rm
    refine VO.inv _ (fun _ h => h.parts (i := 1) rfl q3_S [107, 104, 105, 106]) ?_
    refine VO.y rfl (.ld1 107 rfl tk37 rfl (cellsAt_one rfl rfl)) ?_
    refine VO.mv ?_
    refine VO.call 104 rfl fnOk26 rfl rfl (fun W hW => tGet_ok W (hW.at (i := 104) rfl) q3_0 d1 bdm) (fun v8 m8 hv8 => ?_)
    obtain ⟨rfl, w8_0⟩ := hv8
    refine VO.mv ?_
    refine VO.y rfl (.ext rfl rfl) ?_
    refine VO.y rfl (.ext rfl rfl) ?_
    refine VO.y rfl (.ext rfl rfl) ?_
    refine VO.as ?_
    refine VO.as ?_
    refine VO.as ?_
    refine VO.clsP 109 [107, 104, 105, 106] rfl (fun hg9 => (mkP_storeStore (gt_, T_) (gu_, ((gd_, D_), br_, l_)) r_ hg9 w8_0 q3_1 q3_2)) (fun mc9 ho9 => ?_)
    refine VO.kp [109, 0] [(109, mc9), (0, mout (wm W) (m0))] ?_
    refine VO.k8 0 1 4 5 6 7 8 10 ?_
    refine VC.seq ?_
    refine VC.rs ?_
    refine VO.mv ?_
    refine VO.y rfl (.not rfl) ?_
    refine VO.k9 0 1 4 5 6 7 8 10 22 ?_
    refine VC.condBN rfl (fun hc10 => ?_) (fun hc10 => ?_)
    · -- FT
      refine VC.reg ?_
      refine VO.mv ?_
      refine VO.y rfl (.nilp rfl) ?_
      refine VO.y rfl (.fa rfl tst40 rfl) ?_
      obtain ⟨q11_E, q11_A2, q11_c2, q11_n0, q11_n1, q11_n2, _, q11_S, q11_0, q11_1, q11_2⟩ := openP_storeStore (x0 := (gt_, T_)) (x1 := (gu_, ((gd_, D_), br_, l_))) (x2 := r_) ho9
      dsimp only at q11_0
      dsimp only at q11_1
      have q11_r2 := q11_2.rm
      refine VO.inv _ (fun _ h => h.parts (i := 109) rfl q11_S [115, 112, 113, 114]) ?_
      refine VO.y rfl (.ld1 115 rfl tk38 rfl (cellsAt_one rfl rfl)) ?_
      refine VO.mv ?_
      obtain ⟨q17_E, q17_A2, q17_c2, q17_n0, q17_n2, _, q17_S, q17_0, q17_2⟩ := openP_runRuns (x0 := (gd_, D_)) (x1 := br_) (x2 := l_) q11_1
      dsimp only at q17_0
      have q17_r2 := q17_2.rm
      refine VO.inv _ (fun _ h => h.parts (i := 113) rfl q17_S [120, 118, 119]) ?_
      refine VO.call 120 rfl fnOk46 rfl rfl (fun W hW => uGet_ok W (d0 := ((some gd_), br_, l_)) (hW.at (i := 120) rfl) (Ow.rd q17_2 (hW.out (i := 120) (j := 119) rfl rfl)) d1 bdm (by assumption) (by first | assumption | simp)) (fun v16 m16 hv16 => ?_)
      try dsimp only at hv16
      obtain ⟨rfl, rfl⟩ := hv16
      refine VO.mv ?_
      refine VO.y rfl (.ext rfl rfl) ?_
      refine VO.y rfl (.ext rfl rfl) ?_
      refine VO.y rfl (.ext rfl rfl) ?_
      refine VO.as ?_
      refine VO.as ?_
      refine VO.clsP 121 [120, 118, 119] rfl (fun hg21 => (mkP_runRuns (gd_, D_) br_ l_ hg21 q17_0 q17_2)) (fun mc21 ho21 => ?_)
      refine VO.clsP 122 [115, 112, 121, 114] rfl (fun hg22 => (mkP_storeStore (gt_, T_) (gu_, ((gd_, D_), br_, l_)) r_ hg22 q11_0 ho21 q11_2)) (fun mc22 ho22 => ?_)
      refine VO.k9 0 1 4 5 6 7 8 10 22 ?_
      refine outN ?_
      refine VC.rs ?_
      refine VO.mv ?_
      refine VO.mv ?_
      refine VO.as ?_
      refine VO.as ?_
      refine VO.kp [122, 0] [(122, mc22), (0, mout (wm W) (m0))] ?_
      refine VO.k9 0 1 4 5 6 7 8 10 22 ?_
      refine VC.ret ?_
      refine ⟨_, _, res_run (rs := [.tmp 4, .tmp 5]) rfl (.tmp rfl (.tmp rfl .nil)), fun W_ hI => out_of (l := [mc22]) hI [122] rfl rfl (mle_refl _) (fun hS_ => ?_)⟩
      dsimp only [packV]
      have hm0_ : (((gt_, T_), (gu_, ((gd_, D_), br_, l_)), r_) : DstoreStore) = ((gt_, T_), (gu_, ((gd_, D_), br_, l_)), r_) := by first | rfl | (simp [*]; done)
      refine ⟨?_, ?_⟩
      rotate_left
      · rw [hm0_]; exact (Ow.up ho22 (hS_.1 _ (.head _)))
      all_goals (first | rfl | (first | (rw [sGet_no e0 (by assumption)]; rfl) | (rw [sGet_yes e0 (by assumption)]; rfl)))
    · -- FF
      refine VC.skip ?_
      refine outN ?_
      refine VC.rs ?_
      refine VO.mv ?_
      refine VO.mv ?_
      refine VO.as ?_
      refine VO.as ?_
      refine VO.k9 0 1 4 5 6 7 8 10 22 ?_
      refine VC.ret ?_
      refine ⟨_, _, res_run (rs := [.tmp 4, .tmp 5]) rfl (.tmp rfl (.tmp rfl .nil)), fun W_ hI => out_of (l := [mc9]) hI [109] rfl rfl (mle_refl _) (fun hS_ => ?_)⟩
      dsimp only [packV]
      have hm0_ : (((gt_, T_), (gu_, ((gd_, D_), br_, l_)), r_) : DstoreStore) = ((gt_, T_), (gu_, ((gd_, D_), br_, l_)), r_) := by first | rfl | (simp [*]; done)
      refine ⟨?_, ?_⟩
      rotate_left
      · rw [hm0_]; exact (Ow.up ho9 (hS_.1 _ (.head _)))
      all_goals (first | rfl | (first | (rw [sGet_no e0 (by assumption)]; rfl) | (rw [sGet_yes e0 (by assumption)]; rfl)))
theorem fnOk23 : fnOk Tryz.prog 23 = true := by kernel_rfl
theorem fnOk47 : fnOk Tryz.prog 47 = true := by kernel_rfl
theorem fnOk48 : fnOk Tryz.prog 48 = true := by kernel_rfl
theorem tz40 : tz Tryz.prog 40 = some [.pointer none, .pointer none, .slice none 0 0] := by kernel_rfl
theorem fin0_sOpenY_ok {P : Prop} (h : P := by first | omega | (simp only [List.length_append, List.length_nil, List.length_cons, List.length_take, List.length_drop] at *; omega) | exact okS_ops e1 _ (List.mem_of_getElem? ‹d1[_]? = some _›)) : P := h
theorem sOpenY_ok (W : World) {l_ : List DRun} {br_ : Bool} {D_ : DdiskDisk} {gd_ : Nat} {m0 : Mem} (hm : mle (m0) (wm W)) {g0 : Nat} (h0 : Ow (.ptr TrunRuns) m0 [.pointer (some ⟨g0, 0, none⟩)] (g0, ((gd_, D_), br_, l_))) {v1 : Value} {d1 : List DCommit} (h1 : Rd (.sl TCommit) (mout (wm W) (m0)) [v1] d1) (e0 : okU l_) (e1 : (cFollows 1 (endR l_) d1).1 = 0) (e2 : d1.length ≤ 1000000) : CallR Tryz.prog 14 [.pointer (some ⟨g0, 0, none⟩), v1] W (m0) (fun v m' => ∃ (s0 : Nat), ∃ (gt2 : Nat), v = .tuple #[.pointer (some ⟨s0, 0, none⟩), .int .i64 (0)] ∧ Ow (.ptr TstoreStore) m' [.pointer (some ⟨s0, 0, none⟩)] (s0, ((gt2, (sT d1)), (g0, ((gd_, D_), br_, l_)), d1))) := by
  have hll := okU_len e0
  obtain ⟨A1, c1, rfl, l1, k1⟩ := h1.slice
  simp only [maxLen] at k1
  refine CallR.ofB (n := 37) hm Tryz.func14 rfl rfl rfl ?_
  refine VC.rs ?_
  refine VO.as ?_
  refine VO.as ?_
  refine VO.k4 0 1 4 5 ?_
  refine VC.seq ?_
  refine VC.rs ?_
  refine VO.mv ?_
  refine VO.call 1 rfl fnOk47 rfl rfl (fun W hW => uIs_ok W (hW.at (i := 1) rfl) h0) (fun v1 m1 hv1 => ?_)
  try dsimp only at hv1
  obtain ⟨rfl, w1_0⟩ := hv1
  refine VO.y rfl (.notD rfl) ?_
  refine VO.k5 0 1 4 5 12 ?_
  refine VC.cond rfl (fun hc2 => ?_) (fun hc2 => ?_)
  · -- T
    exact absurd trivial hc2
  · -- F
    refine VC.skip ?_
    refine outN ?_
    refine VC.seq ?_
    refine VC.rs ?_
    refine VO.mv ?_
    refine VO.call 1 rfl fnOk21 rfl rfl (fun W hW => uEnd_ok W (hW.at (i := 1) rfl) w1_0 (by assumption)) (fun v3 m3 hv3 => ?_)
    try dsimp only at hv3
    obtain ⟨rfl, w3_0⟩ := hv3
    refine VO.mv ?_
    refine VO.callN 104 rfl fnOk48 rfl (fun W hW => follows_ok W 1 (by simp only [inK]; (exact fin0_sOpenY_ok)) (endR l_) (by simp only [inK]; (exact fin0_sOpenY_ok)) (Rd.mono h1 (hW.at (i := 0) rfl))) (fun v4 m4 hv4 => ?_)
    obtain ⟨s4_0, rfl, f4_0⟩ := hv4
    obtain ⟨rfl, q4_0_0, q4_0_1⟩ := open_Fault (x0 := (cFollows 1 (endR l_) d1).1) (x1 := (cFollows 1 (endR l_) d1).2) (f4_0.rd (mle_refl _))
    simp only [inK] at q4_0_0
    simp only [inK] at q4_0_1
    refine VO.alloc 106 rfl tz95 (fun g5 => ?_)
    refine VO.store (k := 2) (c' := [Value.int .i64 ((cFollows 1 (endR l_) d1).1), Value.int .i64 ((cFollows 1 (endR l_) d1).2)]) 106 rfl rfl (.inl tk95) rfl rfl rfl rfl rfl ?_
    refine VO.kp [106, 1, 0] [(106, mone g5 (.cells [Value.int .i64 ((cFollows 1 (endR l_) d1).1), Value.int .i64 ((cFollows 1 (endR l_) d1).2)].toArray 95 (0, 0))), (1, m3), (0, mout (wm W) (m0))] ?_
    refine VO.k6 0 1 4 5 6 12 ?_
    refine VC.rs ?_
    refine VO.y rfl (.fa rfl tst95 rfl) ?_
    refine VO.y rfl (.ld1 106 rfl tk24 rfl (cellsAt_one rfl rfl)) ?_
    refine VO.y rfl (.neq rfl rfl) ?_
    refine VO.k7 0 1 4 5 6 12 19 ?_
    refine VC.cond rfl (fun hc7 => ?_) (fun hc7 => ?_)
    · -- FT
      exact absurd e1 hc7
    · -- FF
      refine VC.skip ?_
      refine outN ?_
      refine VC.rs ?_
      refine VO.callN 108 rfl fnOk23 rfl (fun W hW => tNew_ok W ) (fun v8 m8 hv8 => ?_)
      obtain ⟨s8_0, rfl, f8_0⟩ := hv8
      refine VO.mv ?_
      refine VO.y rfl (.bst (cs := [Value.pointer (some ⟨s8_0, 0, none⟩), Value.pointer (some ⟨g0, 0, none⟩), Value.slice none (0) (0)]) rfl tst40 tz40 rfl) ?_
      refine VO.box (cs := [Value.pointer (some ⟨s8_0, 0, none⟩), Value.pointer (some ⟨g0, 0, none⟩), Value.slice none (0) (0)]) 110 rfl rfl rfl (fun g9 => ?_)
      refine VO.as ?_
      refine VO.k8 0 1 4 5 6 7 12 19 ?_
      refine VC.seq ?_
      refine VC.rs ?_
      refine VO.mv ?_
      refine VO.y rfl (.lenS rfl tsl27) ?_
      refine VO.mv ?_
      refine VO.kp [110, 108, 106, 1, 0] [(110, mone g9 (.cells [Value.pointer (some ⟨s8_0, 0, none⟩), Value.pointer (some ⟨g0, 0, none⟩), Value.slice none (0) (0)].toArray 40 (0, 0))), (108, m8), (106, mone g5 (.cells [Value.int .i64 ((cFollows 1 (endR l_) d1).1), Value.int .i64 ((cFollows 1 (endR l_) d1).2)].toArray 95 (0, 0))), (1, m3), (0, mout (wm W) (m0))] ?_
      refine VO.k11 0 1 4 5 6 7 12 19 26 27 28 ?_
      refine VC.block ?_
      refine VC.clsP 111 [110, 108, 1] rfl (fun hg11 => (mkP_storeStore (s8_0, ([] : MapD)) (g0, ((gd_, D_), br_, l_)) [] (Seps.nilAt 3 hg11) f8_0 w3_0 (Ow.nil _ _))) (fun mc11 ho11 => ?_)
      refine VC.loop (G := Nat × DtableTable × (List DCommit) × Mem) (fun g => [(28, Value.int .i64 ((((g.1) : Nat) : Int))), (0, Value.pointer (some ⟨g0, 0, none⟩)), (1, Value.slice A1 (d1.length) (c1)), (4, Value.pointer none), (5, Value.int .i64 (0)), (6, Value.pointer (some ⟨g5, 0, none⟩)), (7, Value.pointer (some ⟨g9, 0, none⟩)), (12, Value.bool (decide (¬ (True)))), (19, Value.bool (decide (¬ ((cFollows 1 (endR l_) d1).1) = 0))), (26, Value.slice A1 (d1.length) (c1)), (27, Value.int .i64 (((d1.length : Nat) : Int)))]) (fun g => [(111, (g.2.2.2)), (106, mone g5 (.cells [Value.int .i64 ((cFollows 1 (endR l_) d1).1), Value.int .i64 ((cFollows 1 (endR l_) d1).2)].toArray 95 (0, 0))), (0, mout (wm W) (m0))]) (fun g => ((g.1) ≤ d1.length) ∧ ((g.2.2.1) = d1.take (g.1)) ∧ ((g.2.1) = sT (g.2.2.1)) ∧ (Ow (.ptr TstoreStore) (g.2.2.2) [.pointer (some ⟨g9, 0, none⟩)] (g9, ((s8_0, (g.2.1)), (g0, ((gd_, D_), br_, l_)), (g.2.2.1))))) (fun g => d1.length - (g.1)) (0, ([] : MapD), [], mc11) (⟨by omega, by rfl, by rfl, ho11⟩) ⟨⟨rfl, rfl, rfl, rfl, rfl, rfl, rfl, rfl, rfl, rfl, rfl, trivial⟩, fun _ h => h.sub [111, 106, 0]⟩ ?_
      rintro ⟨k, w_0, w_2, w_m⟩ ⟨hk, hr, ht, h_w⟩
      replace hk : k ≤ d1.length := hk
      replace hr : w_2 = d1.take k := hr
      replace ht : w_0 = sT w_2 := ht
      replace h_w : Ow (.ptr TstoreStore) w_m [.pointer (some ⟨g9, 0, none⟩)] (g9, ((s8_0, w_0), (g0, ((gd_, D_), br_, l_)), w_2)) := h_w
      show VC _ _ _ _ _ [(28, Value.int .i64 (((k : Nat) : Int))), (0, Value.pointer (some ⟨g0, 0, none⟩)), (1, Value.slice A1 (d1.length) (c1)), (4, Value.pointer none), (5, Value.int .i64 (0)), (6, Value.pointer (some ⟨g5, 0, none⟩)), (7, Value.pointer (some ⟨g9, 0, none⟩)), (12, Value.bool (decide (¬ (True)))), (19, Value.bool (decide (¬ ((cFollows 1 (endR l_) d1).1) = 0))), (26, Value.slice A1 (d1.length) (c1)), (27, Value.int .i64 (((d1.length : Nat) : Int)))] [(111, w_m), (106, mone g5 (.cells [Value.int .i64 ((cFollows 1 (endR l_) d1).1), Value.int .i64 ((cFollows 1 (endR l_) d1).2)].toArray 95 (0, 0))), (0, mout (wm W) (m0))]
      have hlw : w_2.length ≤ k := by rw [hr, List.length_take]; omega
      refine VC.rs ?_
      refine VO.y rfl (.lss rfl rfl) ?_
      refine VO.k12 0 1 4 5 6 7 12 19 26 27 28 29 ?_
      refine VC.seq ?_
      refine VC.cond rfl (fun hc12 => ?_) (fun hc12 => ?_)
      · -- FFT
        refine VC.skip ?_
        refine outN ?_
        refine VC.seq ?_
        refine VC.block ?_
        refine VC.rs ?_
        obtain ⟨x13, hx13⟩ : ∃ z_, (d1)[k]? = some z_ := ⟨_, List.getElem?_eq_getElem (by exact fin0_sOpenY_ok)⟩
        obtain ⟨gg13, oo13, ec13, ea13, hce13, hre13⟩ := h1.elem hx13
        cases ea13
        obtain ⟨q13_A2, q13_c2, rfl, q13_0, q13_1, q13_2⟩ := open_Commit (x0 := x13.1) (x1 := x13.2.1) (x2 := x13.2.2) hre13
        simp only [inK] at q13_0
        simp only [inK] at q13_1
        have q13_r2 := Rd.room q13_2
        refine VO.y rfl (.ixI k rfl rfl tsl27 rfl (by exact fin0_sOpenY_ok)) ?_
        refine VO.y rfl (.ldA 0 rfl tk36 rfl hce13) ?_
        refine VO.alloc 115 rfl tz36 (fun g14 => ?_)
        refine VO.store (k := 3) (c' := [Value.int .i64 (x13.1), Value.int .i64 (x13.2.1), Value.slice q13_A2 (x13.2.2.length) (q13_c2)]) 115 rfl rfl (.inl tk36) rfl rfl rfl rfl rfl ?_
        refine VO.k13 0 1 4 5 6 7 9 12 19 26 27 28 29 ?_
        refine VC.reg ?_
        refine VO.mv ?_
        refine VO.y rfl (.ldA 115 rfl tk36 rfl (cellsAt_one rfl rfl)) ?_
        refine VO.call 111 rfl fnOk45 rfl rfl (fun W hW => sTake_ok W (hW.at (i := 111) rfl) h_w (Rd.mono hre13 (hW.out (i := 111) (j := 0) rfl rfl)) (by first | assumption | rfl) (by exact fin0_sOpenY_ok) (by exact fin0_sOpenY_ok)) (fun v16 m16 hv16 => ?_)
        try dsimp only at hv16
        obtain ⟨rfl, w16_0⟩ := hv16
        refine VO.kp [111, 115, 106, 0] [(111, m16), (115, mone g14 (.cells [Value.int .i64 (x13.1), Value.int .i64 (x13.2.1), Value.slice q13_A2 (x13.2.2.length) (q13_c2)].toArray 36 (0, 0))), (106, mone g5 (.cells [Value.int .i64 ((cFollows 1 (endR l_) d1).1), Value.int .i64 ((cFollows 1 (endR l_) d1).2)].toArray 95 (0, 0))), (0, mout (wm W) (m0))] ?_
        refine VO.k13 0 1 4 5 6 7 9 12 19 26 27 28 29 ?_
        refine outBN ?_
        refine outN ?_
        refine VC.reg ?_
        refine VO.y rfl (.add (c := ((k + 1 : Nat) : Int)) rfl rfl (by omega) ⟨by exact fin0_sOpenY_ok, by exact fin0_sOpenY_ok⟩) ?_
        refine VO.mv ?_
        refine VO.k13 0 1 4 5 6 7 9 12 19 26 27 28 29 ?_
        exact outN ⟨⟨k + 1, (sT (w_2 ++ [x13])), w_2 ++ [x13], m16⟩, ⟨by omega, by (rw [hr]; exact (take_one ‹d1[k]? = some _›).symm), by rfl, w16_0⟩, by exact fin0_sOpenY_ok, ⟨⟨rfl, rfl, rfl, rfl, rfl, rfl, rfl, rfl, rfl, rfl, rfl, trivial⟩, fun _ h => Inv.sub h [111, 106, 0]⟩⟩
      · -- FFF
        refine VC.exit ?_
        refine outE ?_
        refine outE ?_
        refine outBB ?_
        refine outN ?_
        refine VC.rs ?_
        refine VO.mv ?_
        refine VO.as ?_
        refine VO.as ?_
        refine VO.k12 0 1 4 5 6 7 12 19 26 27 28 29 ?_
        refine VC.ret ?_
        refine ⟨_, _, res_run (rs := [.tmp 4, .tmp 5]) rfl (.tmp rfl (.tmp rfl .nil)), fun W_ hI => out_of (l := [w_m]) hI [111] rfl rfl (mle_refl _) (fun hS_ => ?_)⟩
        dsimp only [packV]
        have he0 : (((s8_0, (sT d1)), (g0, ((gd_, D_), br_, l_)), d1) : DstoreStore) = ((s8_0, w_0), (g0, ((gd_, D_), br_, l_)), w_2) := by first | rfl | ((rw [ht, hr, List.take_of_length_le (by omega)]; done))
        refine ⟨g9, s8_0, ?_, ?_⟩
        rotate_left
        · rw [he0]; exact (Ow.up h_w (hS_.1 _ (.head _)))
        all_goals (first | rfl | (simp [*]; done))
def allT (l : List DOp) (n : Int) : List DOp := if n < 0 then l else l.take n.toNat
def exT : MapD := [([97], [], false), ([98], [50], true)]
section
variable {l out : List DOp} {n a : Int} {x : DOp}
theorem all_in (ho : out = l.take a.toNat ∧ 0 ≤ a ∧ a ≤ l.length ∧ (n < 0 ∨ a ≤ n)) (hx : l[a.toNat]? = some x) (hn : ¬ (out.length : Int) = n) : out ++ [x] = l.take (vsN a).toNat ∧ 0 ≤ vsN a ∧ vsN a ≤ l.length ∧ (n < 0 ∨ vsN a ≤ n) := by
  obtain ⟨h1, h2, h3, h4⟩ := ho
  have h5 := (List.getElem?_eq_some_iff.1 hx).1
  have h6 : out.length = a.toNat := by rw [h1, List.length_take]; omega
  refine ⟨?_, by unfold vsN; omega, by unfold vsN; omega, by unfold vsN; omega⟩
  rw [show (vsN a).toNat = a.toNat + 1 by unfold vsN; omega, take_one hx, h1]
theorem all_stop (ho : out = l.take a.toNat ∧ 0 ≤ a ∧ a ≤ l.length ∧ (n < 0 ∨ a ≤ n)) (hn : (out.length : Int) = n) : out = allT l n := by
  obtain ⟨h1, h2, h3, h4⟩ := ho
  have h6 : out.length = a.toNat := by rw [h1, List.length_take]; omega
  unfold allT; rw [if_neg (by omega), h1]; congr 1; omega
theorem all_done (ho : out = l.take a.toNat ∧ 0 ≤ a ∧ a ≤ l.length ∧ (n < 0 ∨ a ≤ n)) (hd : vsD l a) : out = allT l n := by
  obtain ⟨h1, h2, h3, h4⟩ := ho
  unfold vsD at hd
  unfold allT; split
  · rw [h1, List.take_of_length_le (by omega)]
  · rw [h1, List.take_of_length_le (by omega), List.take_of_length_le (by omega)]
end
theorem ex_up : opsUp [((false, [97], []) : DOp), (true, [98], [50])] := ⟨fun o ho => by
  rcases List.mem_cons.1 ho with rfl | ho
  · rfl
  · rw [List.mem_singleton.1 ho]; rfl, by simp [kl]; decide⟩
theorem ex_list : tL exT = [(false, [97], []), (true, [98], [50])] := (tl_is (L := [(false, [97], []), (true, [98], [50])]) (by decide) ⟨ex_up, fun q => by
  unfold exT mGet findK
  by_cases h1 : ([97] : List UInt8) = q
  · subst h1; rfl
  · by_cases h2 : ([98] : List UInt8) = q
    · subst h2; rfl
    · simp [h1, h2]⟩).1
theorem tl_nil : tL [] = [] := (tl_is (by simp) tabIs_nil).1
section
variable {l out old y : List DOp} {x o : DOp} {a : Int} {q : Bytes}
theorem vals_in (ho : out = l.take a.toNat ∧ 0 ≤ a) (hx : l[a.toNat]? = some x) : out ++ [x] = l.take (vsN a).toNat ∧ 0 ≤ vsN a := by
  refine ⟨?_, by unfold vsN; omega⟩
  rw [show (vsN a).toNat = a.toNat + 1 by unfold vsN; omega, take_one hx, ho.1]
theorem vals_done (ho : out = l.take a.toNat ∧ 0 ≤ a) (hd : vsD l a) : out = l := by
  unfold vsD at hd
  rw [ho.1, List.take_of_length_le (by omega)]
theorem mrg_nil : mrg [] old = old := rfl
theorem mrg_lt (h : kl x.2.1 o.2.1) : mrg (o :: y) (x :: old) = x :: mrg (o :: y) old := by show mrgO o _ (x :: old) = _; unfold mrgO; rw [if_pos h]; rfl
theorem mrg_eq (h : ¬ kl x.2.1 o.2.1) (h2 : x.2.1 = o.2.1) : mrg (o :: y) (x :: old) = o :: mrg y old := by show mrgO o _ (x :: old) = _; unfold mrgO; rw [if_neg h, if_pos h2]
theorem mrg_gt (h : ¬ kl x.2.1 o.2.1) (h2 : ¬ x.2.1 = o.2.1) : mrg (o :: y) (x :: old) = o :: mrg y (x :: old) := by show mrgO o _ (x :: old) = _; unfold mrgO; rw [if_neg h, if_neg h2]
theorem mrg_end : mrg (o :: y) [] = o :: mrg y [] := rfl
theorem mrg_len : ∀ (y old : List DOp), (mrg y old).length ≤ y.length + old.length
  | [], old => by rw [mrg_nil]; simp
  | o :: y, [] => by rw [mrg_end, List.length_cons, List.length_cons]; have := mrg_len y []; omega
  | o :: y, x :: old => by
    by_cases h : kl x.2.1 o.2.1
    · rw [mrg_lt h, List.length_cons]; have := mrg_len (o :: y) old; simp only [List.length_cons] at *; omega
    · by_cases h2 : x.2.1 = o.2.1
      · rw [mrg_eq h h2]; have := mrg_len y old; simp only [List.length_cons] at *; omega
      · rw [mrg_gt h h2]; have := mrg_len y (x :: old); simp only [List.length_cons] at *; omega
end
/-- how many of a list have a value -/
def cnt (l : List DOp) : Int := ((l.filter (·.1)).length : Int)
section
variable {L out old young rest : List DOp} {x y : DOp} {i j : Nat}
theorem mg_no (h : x.1 = false) : cnt (out ++ [x]) = cnt out := by unfold cnt; rw [List.filter_append]; simp [h]
theorem mg_yes (h : x.1 = true) : cnt (out ++ [x]) = vsN (cnt out) := by unfold cnt vsN; rw [List.filter_append]; simp [h]
theorem mg_E (h : L = out ++ ([x] ++ rest)) (hp : x.1 = true) (h1 : x.2.1.length ≤ maxLen) (h2 : x.2.2.length ≤ maxLen) : lvE L (cnt out) [str x.2.1, str x.2.2] mnil := by
  have e : L.filter (·.1) = out.filter (·.1) ++ x :: rest.filter (·.1) := by rw [h, List.filter_append, List.filter_append]; simp [hp]
  refine ⟨by unfold cnt; omega, ?_, rfl, x, ?_, h1, h2, rfl⟩
  · rw [e]; unfold cnt; simp; omega
  · rw [e]; unfold cnt; simp
theorem mg_lt (h : L = out ++ mrg (young.drop j) (old.drop i)) (hx : young[j]? = some x) (hy : old[i]? = some y) (hk : kl y.2.1 x.2.1) : L = (out ++ [y]) ++ mrg (young.drop j) (old.drop (i + 1)) := by
  rw [h, drop_cons hx, drop_cons hy, mrg_lt hk]; simp
theorem mg_eq (h : L = out ++ mrg (young.drop j) (old.drop i)) (hx : young[j]? = some x) (hy : old[i]? = some y) (hk : ¬ kl y.2.1 x.2.1) (he : y.2.1 = x.2.1) : L = (out ++ [x]) ++ mrg (young.drop (j + 1)) (old.drop (i + 1)) := by
  rw [h, drop_cons hx, drop_cons hy, mrg_eq hk he]; simp
theorem mg_gt (h : L = out ++ mrg (young.drop j) (old.drop i)) (hx : young[j]? = some x) (hy : old[i]? = some y) (hk : ¬ kl y.2.1 x.2.1) (he : ¬ y.2.1 = x.2.1) : L = (out ++ [x]) ++ mrg (young.drop (j + 1)) (old.drop i) := by
  rw [h, drop_cons hx, drop_cons hy, mrg_gt hk he]; simp
theorem mg_nl (h : L = out ++ mrg (young.drop j) (old.drop i)) (hx : young[j]? = some x) (hi : old.length ≤ i) : L = (out ++ [x]) ++ mrg (young.drop (j + 1)) (old.drop i) := by
  rw [h, drop_cons hx, List.drop_of_length_le hi, mrg_end]; simp
theorem mg_fin (h : L = out ++ mrg (young.drop j) (old.drop i)) (hj : young.length ≤ j) : L = out ++ old.drop i := by
  rw [h, List.drop_of_length_le hj, mrg_nil]
theorem mg_o (h : L = out ++ old.drop i) (hy : old[i]? = some y) : L = (out ++ [y]) ++ old.drop (i + 1) := by
  rw [h, drop_cons hy]; simp
theorem mg_end (h : L = out ++ old.drop i) (hi : old.length ≤ i) : lvD L (cnt out) := by
  rw [h, List.drop_of_length_le hi, List.append_nil]; exact Int.le_refl _
end
section
variable {l : List DRun} {r : List DCommit} {L out : List DOp} {x : DOp} {a n : Int}
theorem sList_len : ((sList l r).filter (·.1)).length ≤ (sT r).length + (sOld l).length := by
  have h1 := List.length_filter_le (fun o : DOp => o.1) (sList l r)
  have h2 := mrg_len (tL (sT r)) (tL (sOld l))
  rw [tL_len, tL_len] at h2
  exact Nat.le_trans h1 h2
theorem allT_len (L : List DOp) (n : Int) : (allT L n).length ≤ L.length := by
  unfold allT; split
  · exact Nat.le_refl _
  · rw [List.length_take]; omega
theorem alls_in (ho : out = (L.filter (·.1)).take a.toNat ∧ 0 ≤ a ∧ a ≤ (L.filter (·.1)).length ∧ (n < 0 ∨ a ≤ n)) (hx : (L.filter (·.1))[a.toNat]? = some x) (hn : ¬ (out.length : Int) = n) : out ++ [(true, x.2.1, x.2.2)] = (L.filter (·.1)).take (vsN a).toNat ∧ 0 ≤ vsN a ∧ vsN a ≤ (L.filter (·.1)).length ∧ (n < 0 ∨ vsN a ≤ n) := by
  have h1 : x.1 = true := by simpa using (List.mem_filter.1 (List.mem_of_getElem? hx)).2
  have e : (true, x.2.1, x.2.2) = x := by rw [← h1]
  rw [e]; exact all_in ho hx hn
theorem alls_done (ho : out = (L.filter (·.1)).take a.toNat ∧ 0 ≤ a ∧ a ≤ (L.filter (·.1)).length ∧ (n < 0 ∨ a ≤ n)) (hd : lvD L a) : out = allT (L.filter (·.1)) n := all_done ho hd
end
theorem fnOk86 : fnOk Tryz.prog 86 = true := by kernel_rfl
theorem aseq_ok (W : World) {m1 : Mem} (hm : mle (m1) (wm W)) {ca1 : List Value} {l1 : List DOp} (h1 : IterOk Tryz.prog 128 ca1 m1 (vsE l1) vsN 0 (vsD l1)) (e0 : l1.length ≤ 10000000) : CallR Tryz.prog 86 [.slice none 0 0, .func (.func 128) #[] (List.toArray ca1)] W (m1) (fun v m' => ∃ (s0 : Value), v = s0 ∧ Ow (.sl TOp) m' [s0] (l1)) := by
  refine CallR.ofX (n := 13) Tryz.func86 rfl rfl rfl hm ?_
  refine VX.rs ?_
  refine VO.box (cs := [Value.slice none (0) (0)]) 102 rfl rfl rfl (fun g1 => ?_)
  refine VO.as ?_
  refine VO.k4 0 1 2 4 ?_
  refine VX.seq ?_
  refine VX.rs ?_
  refine VO.mv ?_
  refine VO.k5 0 1 2 4 6 ?_
  refine VX.block ?_
  refine VX.inv ((103, mnil) :: _) (fun _ h => h.nilc 103) ?_
  refine VX.gather (l := [mnil, mone g1 (.cells [Value.slice none (0) (0)].toArray 34 (0, 0))]) 105 [103, 102] rfl (fun hg4 => ?_)
  refine VX.inv [(1, m1), (105, muns [mnil, mone g1 (.cells [Value.slice none (0) (0)].toArray 34 (0, 0))]), (0, mout (wm W) (m1))] (fun _ h => h.sub [1, 105, 0]) ?_
  refine VX.rangeR (A := Int) (G := (List DOp) × (Option Addr) × Nat × Mem) (rest := [(0, mout (wm W) (m1))]) 105 1 106 107 108 109 (fun g => muns [(g.2.2.2), mone g1 (.cells [Value.slice (g.2.1) ((g.1).length) ((g.2.2.1))].toArray 34 (0, 0))]) (fun at_ g => ((g.1) = l1.take at_.toNat ∧ 0 ≤ at_) ∧ (OwnL TOp (g.2.2.2) mnil (.slice (g.2.1) (g.1).length (g.2.2.1)) (g.1)) ∧ (Seps (muns [(g.2.2.2), mone g1 (.cells [Value.slice (g.2.1) ((g.1).length) ((g.2.2.1))].toArray 34 (0, 0))]) [(g.2.2.2), mone g1 (.cells [Value.slice (g.2.1) ((g.1).length) ((g.2.2.1))].toArray 34 (0, 0))])) (fun e g => e = (.exit 0) ∧ (False) ∧ (OwnL TOp (g.2.2.2) mnil (.slice (g.2.1) (g.1).length (g.2.2.1)) (g.1)) ∧ (Seps (muns [(g.2.2.2), mone g1 (.cells [Value.slice (g.2.1) ((g.1).length) ((g.2.2.1))].toArray 34 (0, 0))]) [(g.2.2.2), mone g1 (.cells [Value.slice (g.2.1) ((g.1).length) ((g.2.2.1))].toArray 34 (0, 0))])) ([], none, 0, mnil) ⟨by exact ⟨rfl, by omega⟩, (OwnL.nil TOp mnil mnil), hg4⟩ (fun _ _ => (IterOk.r (mf := mnil) h1)) (.inl rfl) rfl rfl rfl (fun _ _ _ h => by obtain ⟨_, _, _, _, _, _, _, rfl⟩ := h; rfl) (Bx := Nat) (fun args B => [(5, Value.pointer (some ⟨B, 0, none⟩)), (0, Value.slice none (0) (0)), (1, Value.func (.func 128) #[] ca1.toArray), (2, Value.pointer (some ⟨g1, 0, none⟩)), (4, Value.slice none (0) (0))]) (fun args B => [(110, mone B (.cells (aggC (args.getD 0 undef)) 64 (0, 0)))]) ?_ ?_ ?_ ?_
  · intro w1_ lr_ at_ args_ mr_ Ω_ hE_
    obtain ⟨hE0_, hE1_, rfl, x_, hxa_, hxl1_, hxl2_, rfl⟩ := hE_
    simp only [maxLen] at hxl1_ hxl2_
    refine VX.reg ?_
    refine VO.alloc 110 rfl tz64 (fun gB_ => ?_)
    refine VO.store (k := 3) (c' := [Value.bool x_.1, str (x_.2.1), str (x_.2.2)]) 110 rfl rfl (.inl tk64) rfl rfl rfl rfl rfl ?_
    refine VO.nil ?_
    exact ⟨rfl, rfl, gB_, ⟨rfl, rfl, rfl, rfl, rfl, trivial⟩, fun W_ hW_ => Inv.rot hW_⟩
  · -- B
    rintro w1_ lr_ Dr_ at_ ⟨out, out_A, out_c, out_m⟩ args_ mr_ ml_ mo_ gB_ ⟨ho, h_out, hSep_⟩ hE_
    replace ho : out = l1.take at_.toNat ∧ 0 ≤ at_ := ho
    replace h_out : OwnL TOp out_m mnil (.slice out_A out.length out_c) out := h_out
    replace hSep_ : Seps (muns [out_m, mone g1 (.cells [Value.slice out_A (out.length) (out_c)].toArray 34 (0, 0))]) [out_m, mone g1 (.cells [Value.slice out_A (out.length) (out_c)].toArray 34 (0, 0))] := hSep_
    obtain ⟨hE0_, hE1_, rfl, x_, hxa_, hxl1_, hxl2_, rfl⟩ := hE_
    simp only [maxLen] at hxl1_ hxl2_
    refine VX.parts 105 [103, 102] rfl hSep_ ?_
    show VX _ _ _ _ _ _ _ [(5, Value.pointer (some ⟨gB_, 0, none⟩)), (0, Value.slice none (0) (0)), (1, Value.func (.func 128) #[] ca1.toArray), (2, Value.pointer (some ⟨g1, 0, none⟩)), (4, Value.slice none (0) (0))] [(103, out_m), (102, mone g1 (.cells [Value.slice out_A (out.length) (out_c)].toArray 34 (0, 0))), (108, mnil), (109, mo_), (107, ml_), (106, mone Dr_ (.deferred (some []))), (0, mout (wm W) (m1)), (110, mone gB_ (.cells [Value.bool x_.1, str (x_.2.1), str (x_.2.2)].toArray 64 (0, 0)))]
    have l_out : out.length ≤ out_c := by obtain ⟨_, _, he, hl, _⟩ := h_out.slice; simp only [Value.slice.injEq] at he; omega
    have k_out : out_c ≤ 9223372036854775807 := by obtain ⟨_, _, he, _, hl⟩ := h_out.slice; simp only [Value.slice.injEq, maxLen] at he hl; omega
    have hlo : out.length ≤ l1.length := by rw [ho.1, List.length_take]; omega
    refine VX.block ?_
    refine VX.reg ?_
    refine VO.y rfl (.ld1 102 rfl tk34 rfl (cellsAt_one rfl rfl)) ?_
    refine VO.y rfl (.ldA 110 rfl tk64 rfl (cellsAt_one rfl rfl)) ?_
    refine VO.bsl (cs := [Value.bool x_.1, str (x_.2.1), str (x_.2.2)]) 112 rfl rfl tsl34 tz64 rfl rfl (fun g11 => ?_)
    obtain ⟨mo13, cs13, hM13, hA13, hC13⟩ := h_out
    refine VO.app 103 rfl rfl rfl tsl34 tz64 rfl rfl hM13 hA13 (.row 112 _ _ _ 1 1 _ _ Tryz.underlying34 rfl (cellsAt_one rfl rfl)) (by simp [Value.oneCell']) bdm bd (by decide) (fun v13 m13 hN13 => ?_)
    have ho13 : OwnL TOp m13 mnil v13 (out ++ [x_]) := OwnL.one hC13 hN13 (show Rd TOp _ _ x_ from (mk_Op (m := _) x_.1 x_.2.1 x_.2.2 bdm bdm))
    obtain ⟨A13, c13, rfl, l13, k13⟩ := ho13.slice
    simp only [maxLen] at k13
    refine VO.store (k := 1) (c' := [Value.slice A13 ((out ++ [x_]).length) (c13)]) 102 rfl rfl (.inr ⟨tk34, rfl⟩) rfl rfl rfl rfl rfl ?_
    refine VO.kp [103, 102, 109, 107, 106, 0, 110] [(103, m13), (102, mone g1 (.cells [Value.slice A13 ((out ++ [x_]).length) (c13)].toArray 34 (0, 0))), (109, mo_), (107, ml_), (106, mone Dr_ (.deferred (some []))), (0, mout (wm W) (m1)), (110, mone gB_ (.cells [Value.bool x_.1, str (x_.2.1), str (x_.2.2)].toArray 64 (0, 0)))] ?_
    refine VO.k5 0 1 2 4 5 ?_
    refine outBN ?_
    exact ⟨rfl, fun W_ hW_ => ⟨⟨out ++ [x_], A13, c13, m13⟩, (hW_.gather (ids := [103, 102]) 105 rfl).1.sub [109, 107, 105, 106, 0], .inl ⟨rfl, by exact vals_in ho hxa_, ho13, (hW_.gather (ids := [103, 102]) 105 rfl).2⟩⟩⟩
  · -- D
    rintro Dr_ at_ ⟨out, out_A, out_c, out_m⟩ ⟨ho, h_out, hSep_⟩ hDn_
    replace ho : out = l1.take at_.toNat ∧ 0 ≤ at_ := ho
    replace h_out : OwnL TOp out_m mnil (.slice out_A out.length out_c) out := h_out
    replace hSep_ : Seps (muns [out_m, mone g1 (.cells [Value.slice out_A (out.length) (out_c)].toArray 34 (0, 0))]) [out_m, mone g1 (.cells [Value.slice out_A (out.length) (out_c)].toArray 34 (0, 0))] := hSep_
    have l_out : out.length ≤ out_c := by obtain ⟨_, _, he, hl, _⟩ := h_out.slice; simp only [Value.slice.injEq] at he; omega
    have k_out : out_c ≤ 9223372036854775807 := by obtain ⟨_, _, he, _, hl⟩ := h_out.slice; simp only [Value.slice.injEq, maxLen] at he hl; omega
    refine outBN ?_
    refine outN ?_
    refine VX.parts 105 [103, 102] rfl hSep_ ?_
    show VX _ _ _ _ _ _ _ [(0, Value.slice none (0) (0)), (1, Value.func (.func 128) #[] ca1.toArray), (2, Value.pointer (some ⟨g1, 0, none⟩)), (4, Value.slice none (0) (0)), (6, Value.func (.func 128) #[] ca1.toArray)] [(103, out_m), (102, mone g1 (.cells [Value.slice out_A (out.length) (out_c)].toArray 34 (0, 0))), (106, mone Dr_ (.deferred (some []))), (0, mout (wm W) (m1))]
    refine VX.rs ?_
    refine VO.y rfl (.ld1 102 rfl tk34 rfl (cellsAt_one rfl rfl)) ?_
    refine VO.as ?_
    refine VO.kp [103, 102, 106, 0] [(103, out_m), (102, mone g1 (.cells [Value.slice out_A (out.length) (out_c)].toArray 34 (0, 0))), (106, mone Dr_ (.deferred (some []))), (0, mout (wm W) (m1))] ?_
    refine VO.k5 0 1 2 4 6 ?_
    refine VX.ret ?_
    refine ⟨106, rfl, ?_⟩
    refine ⟨_, _, res_run (rs := [.tmp 4]) rfl (.tmp rfl .nil), fun W_ hI => out_of (l := [out_m]) hI [103] rfl rfl (mle_refl _) (fun hS_ => ?_)⟩
    dsimp only [packV]
    have he0 : (l1 : Ty.Den (.sl TOp)) = out := by first | rfl | (first | exact (vals_done ho hDn_).symm | exact hs.elim)
    refine ⟨Value.slice out_A (out.length) (out_c), ?_, ?_⟩
    rotate_left
    · rw [he0]; exact (Ow.up (OwnL.ow h_out rfl) (hS_.1 _ (.head _)))
    all_goals (first | rfl | (simp [*]; done))
  · -- X
    rintro Dr_ _ ⟨out, out_A, out_c, out_m⟩ ⟨rfl, hs, h_out, hSep_⟩ _
    exact hs.elim
theorem coll_ok (W : World) {m0 : Mem} (hm : mle (m0) (wm W)) {ca0 : List Value} {l0 : List DOp} (h0 : IterOk Tryz.prog 128 ca0 m0 (vsE l0) vsN 0 (vsD l0)) (e0 : l0.length ≤ 10000000) : CallR Tryz.prog 43 [.func (.func 128) #[] (List.toArray ca0)] W (m0) (fun v m' => ∃ (s0 : Value), v = s0 ∧ Ow (.sl TOp) m' [s0] (l0)) := by
  refine CallR.ofB (n := 5) hm Tryz.func43 rfl rfl rfl ?_
  refine VC.rs ?_
  refine VO.as ?_
  refine VO.k2 0 2 ?_
  refine VC.rs ?_
  refine VO.mv ?_
  refine VO.call 1 rfl fnOk86 rfl rfl (fun W hW => aseq_ok W (hW.at (i := 1) rfl) h0 bd) (fun v1 m1 hv1 => ?_)
  obtain ⟨s1_0, rfl, f1_0⟩ := hv1
  obtain ⟨A1_0, c1_0, eq1_0, l1_0, k1_0⟩ := f1_0.slice
  subst eq1_0
  simp only [maxLen] at k1_0
  refine VO.as ?_
  refine VO.k2 0 2 ?_
  refine VC.ret ?_
  refine ⟨_, _, res_run (rs := [.tmp 2]) rfl (.tmp rfl .nil), fun W_ hI => out_of (l := [m1]) hI [1] rfl rfl (mle_refl _) (fun hS_ => ?_)⟩
  dsimp only [packV]
  have he0 : (l0 : Ty.Den (.sl TOp)) = l0 := by first | rfl | (simp [*]; done)
  refine ⟨Value.slice A1_0 (l0.length) (c1_0), ?_, ?_⟩
  rotate_left
  · rw [he0]; exact (Ow.up (OwnL.ow (Ow.ownl f1_0 rfl mnil) rfl) (hS_.1 _ (.head _)))
  all_goals (first | rfl | (simp [*]; done))
theorem fnOk130 : fnOk Tryz.prog 130 = true := by kernel_rfl
theorem uNoneR2_ok (W : World) {l_ : List DRun} {br_ : Bool} {D_ : DdiskDisk} {gd_ : Nat} {g0 : Nat} (h0 : Rd (.ptr TrunRuns) (wm W) [.pointer (some ⟨g0, 0, none⟩)] (g0, ((gd_, D_), br_, l_))) : CallR Tryz.prog 55 [.pointer (some ⟨g0, 0, none⟩)] W (mnil) (fun v m' => v = .bool (decide (False))) := by
  have rp0_k := h0
  obtain ⟨_, rp0_rc, rp0_E, rp0_h, rp0_r⟩ := rp0_k
  obtain ⟨rp0_A2, rp0_c2, rfl, rp0_0, rp0_2⟩ := open_runRuns (x0 := (gd_, D_)) (x1 := br_) (x2 := l_) rp0_r
  dsimp only at rp0_0
  have rp0_r2 := Rd.room rp0_2
  have rp0_b : cellsAt (wm W) g0 0 3 [Value.pointer (some ⟨gd_, 0, none⟩), Value.bool br_, Value.slice rp0_A2 (l_.length) (rp0_c2)] := (cellsAt_one rfl rfl).mono (mone_le rp0_h)
  refine CallR.ofA (n := 12) Tryz.func55 rfl rfl rfl ?_
  refine VC.rs ?_
  refine VO.as ?_
  refine VO.k2 0 2 ?_
  refine VC.rs ?_
  refine VO.mv ?_
  refine VO.y rfl (.pnil rfl rfl Tryz.underlying38 rfl) ?_
  refine VO.mv ?_
  refine VO.gy rfl ⟨_, rfl, rfl⟩ (.mv rfl) ?_
  refine VO.gy rfl ⟨_, rfl, rfl⟩ (.nilp rfl) ?_
  refine VO.gy rfl ⟨_, rfl, rfl⟩ (.fa rfl tst47 rfl) ?_
  refine VO.gy rfl ⟨_, rfl, rfl⟩ (.ld1 0 rfl tk44 rfl (rp0_b.at1 (j := 0) rfl)) ?_
  refine VO.gy rfl ⟨_, rfl, rfl⟩ (.pnil rfl rfl Tryz.underlying44 rfl) ?_
  refine VO.y rfl (.pF rfl rfl) ?_
  refine VO.as ?_
  refine VO.k2 0 2 ?_
  refine VC.ret ?_
  refine ⟨_, _, res_run (rs := [.tmp 2]) rfl (.tmp rfl .nil), fun W_ hI => out_of (l := []) hI [] rfl rfl (mle_refl _) (fun hS_ => ?_)⟩
  dsimp only [packV]
  all_goals (first | rfl | (simp [*]; done))
theorem fin0_uListR_ok {P : Prop} (h : P := by first | omega | (simp only [List.length_append, List.length_nil, List.length_cons, List.length_take, List.length_drop] at *; omega) | (have h_ := okU_ops e0 ‹l_[_]? = some _›; omega)) : P := h
theorem uListR_ok (W : World) {l_ : List DRun} {br_ : Bool} {D_ : DdiskDisk} {gd_ : Nat} {g0 : Nat} (h0 : Rd (.ptr TrunRuns) (wm W) [.pointer (some ⟨g0, 0, none⟩)] (g0, ((gd_, D_), br_, l_))) (e0 : okU l_) : CallR Tryz.prog 130 [.pointer (some ⟨g0, 0, none⟩)] W (mnil) (fun v m' => ∃ (s0 : Value), v = s0 ∧ Ow (.sl TRun) m' [s0] (l_)) := by
  have hll := okU_len e0
  have rp0_k := h0
  obtain ⟨_, rp0_rc, rp0_E, rp0_h, rp0_r⟩ := rp0_k
  obtain ⟨rp0_A2, rp0_c2, rfl, rp0_0, rp0_2⟩ := open_runRuns (x0 := (gd_, D_)) (x1 := br_) (x2 := l_) rp0_r
  dsimp only at rp0_0
  have rp0_r2 := Rd.room rp0_2
  have rp0_b : cellsAt (wm W) g0 0 3 [Value.pointer (some ⟨gd_, 0, none⟩), Value.bool br_, Value.slice rp0_A2 (l_.length) (rp0_c2)] := (cellsAt_one rfl rfl).mono (mone_le rp0_h)
  refine CallR.ofA (n := 24) Tryz.func130 rfl rfl rfl ?_
  refine VC.rs ?_
  refine VO.as ?_
  refine VO.k2 0 2 ?_
  refine VC.seq ?_
  refine VC.rs ?_
  refine VO.mv ?_
  refine VO.callN 101 rfl fnOk55 rfl (fun W hW => uNoneR2_ok W (Rd.mono h0 (hW.at (i := 0) rfl))) (fun v1 m1 hv1 => ?_)
  try dsimp only at hv1
  subst hv1
  refine VO.k3 0 2 7 ?_
  refine VC.cond rfl (fun hc2 => ?_) (fun hc2 => ?_)
  · -- T
    exact hc2.elim
  · -- F
    refine VC.skip ?_
    refine outN ?_
    refine VC.rs ?_
    refine VO.as ?_
    refine VO.kp [0] [(0, wm W)] ?_
    refine VO.k4 0 2 3 7 ?_
    refine VC.seq ?_
    refine VC.rs ?_
    refine VO.mv ?_
    refine VO.y rfl (.nilp rfl) ?_
    refine VO.y rfl (.fa rfl tst47 rfl) ?_
    refine VO.y rfl (.ld1 0 rfl tk45 rfl (rp0_b.at1 (j := 2) rfl)) ?_
    refine VO.y rfl (.lenS rfl tsl45) ?_
    refine VO.mv ?_
    refine VO.k7 0 2 3 7 11 12 13 ?_
    refine VC.block ?_
    refine VC.inv ((103, mnil) :: _) (fun _ h => h.nilc 103) ?_
    refine VC.loop (G := Nat × (List DRun) × (Option Addr) × Nat × Mem) (fun g => [(3, Value.slice (g.2.2.1) ((g.2.1).length) ((g.2.2.2.1))), (13, Value.int .i64 ((((g.1) : Nat) : Int))), (0, Value.pointer (some ⟨g0, 0, none⟩)), (2, Value.slice none (0) (0)), (7, Value.bool (decide (False))), (11, Value.slice rp0_A2 (l_.length) (rp0_c2)), (12, Value.int .i64 (((l_.length : Nat) : Int)))]) (fun g => [(103, (g.2.2.2.2)), (0, wm W)]) (fun g => ((g.1) ≤ l_.length) ∧ ((g.2.1) = l_.take (g.1)) ∧ (Ow (.sl TRun) (g.2.2.2.2) [.slice (g.2.2.1) (g.2.1).length (g.2.2.2.1)] (g.2.1))) (fun g => l_.length - (g.1)) (0, [], none, 0, mnil) (⟨by omega, by rfl, (Ow.nil TRun mnil)⟩) ⟨⟨rfl, rfl, rfl, rfl, rfl, rfl, rfl, trivial⟩, fun _ h => h.sub [103, 0]⟩ ?_
    rintro ⟨k, out, out_A, out_c, out_m⟩ ⟨hk, ho, h_out⟩
    replace hk : k ≤ l_.length := hk
    replace ho : out = l_.take k := ho
    replace h_out : Ow (.sl TRun) out_m [.slice out_A out.length out_c] out := h_out
    show VC _ _ _ _ _ [(3, Value.slice out_A (out.length) (out_c)), (13, Value.int .i64 (((k : Nat) : Int))), (0, Value.pointer (some ⟨g0, 0, none⟩)), (2, Value.slice none (0) (0)), (7, Value.bool (decide (False))), (11, Value.slice rp0_A2 (l_.length) (rp0_c2)), (12, Value.int .i64 (((l_.length : Nat) : Int)))] [(103, out_m), (0, wm W)]
    have l_out : out.length ≤ out_c := by obtain ⟨_, _, he, hl, _⟩ := h_out.slice; simp only [Value.slice.injEq] at he; omega
    have k_out : out_c ≤ 9223372036854775807 := by obtain ⟨_, _, he, _, hl⟩ := h_out.slice; simp only [Value.slice.injEq, maxLen] at he hl; omega
    have hlo : out.length ≤ k := by rw [ho, List.length_take]; omega
    refine VC.rs ?_
    refine VO.y rfl (.lss rfl rfl) ?_
    refine VO.k8 0 2 3 7 11 12 13 14 ?_
    refine VC.seq ?_
    refine VC.cond rfl (fun hc4 => ?_) (fun hc4 => ?_)
    · -- FT
      refine VC.skip ?_
      refine outN ?_
      refine VC.seq ?_
      refine VC.block ?_
      refine VC.rs ?_
      obtain ⟨x5, hx5⟩ : ∃ z_, (l_)[k]? = some z_ := ⟨_, List.getElem?_eq_getElem (by exact fin0_uListR_ok)⟩
      obtain ⟨gg5, oo5, ec5, ea5, hce5, hre5⟩ := rp0_2.elem hx5
      cases ea5
      obtain ⟨q5_A2, q5_c2, rfl, q5_0, q5_1, q5_2⟩ := open_Run (x0 := x5.1) (x1 := x5.2.1) (x2 := x5.2.2) hre5
      simp only [inK] at q5_0
      simp only [inK] at q5_1
      have q5_r2 := Rd.room q5_2
      refine VO.y rfl (.ixI k rfl rfl tsl45 rfl (by exact fin0_uListR_ok)) ?_
      refine VO.y rfl (.ldA 0 rfl tk92 rfl hce5) ?_
      refine VO.alloc 107 rfl tz92 (fun g6 => ?_)
      refine VO.store (k := 3) (c' := [Value.int .i64 (x5.1), Value.int .i64 (x5.2.1), Value.slice q5_A2 (x5.2.2.length) (q5_c2)]) 107 rfl rfl (.inl tk92) rfl rfl rfl rfl rfl ?_
      refine VO.kp [107, 103, 0] [(107, mone g6 (.cells [Value.int .i64 (x5.1), Value.int .i64 (x5.2.1), Value.slice q5_A2 (x5.2.2.length) (q5_c2)].toArray 92 (0, 0))), (103, out_m), (0, wm W)] ?_
      refine VO.k9 0 2 3 5 7 11 12 13 14 ?_
      refine VC.reg ?_
      refine VO.mv ?_
      refine VO.y rfl (.ldA 107 rfl tk92 rfl (cellsAt_one rfl rfl)) ?_
      refine VO.callN 108 rfl fnOk85 rfl (fun W hW => uCopied_ok W (Rd.mono hre5 (hW.at (i := 0) rfl)) (by exact fin0_uListR_ok)) (fun v8 m8 hv8 => ?_)
      obtain ⟨s8_0, rfl, f8_0⟩ := hv8
      obtain ⟨q8_0_A2, q8_0_c2, q8_0_n2, rfl, q8_0_S, q8_0_0, q8_0_1, q8_0_2⟩ := openO_Run (x0 := x5.1) (x1 := x5.2.1) (x2 := x5.2.2) f8_0
      simp only [inK] at q8_0_0
      simp only [inK] at q8_0_1
      have q8_0_r2 := q8_0_2.rm
      refine VO.inv _ (fun _ h => h.parts (i := 108) rfl q8_0_S [109]) ?_
      refine VO.bsl (cs := [Value.int .i64 (x5.1), Value.int .i64 (x5.2.1), Value.slice q8_0_A2 (x5.2.2.length) (q8_0_c2)]) 111 rfl rfl tsl45 tz92 rfl rfl (fun g10 => ?_)
      refine VO.appO (e := TRun) 103 109 111 rfl rfl rfl tsl45 tz92 rfl rfl rfl rfl h_out (show Ow TRun _ _ x5 from (mkO_Run x5.1 x5.2.1 x5.2.2 (Seps.one (mle_refl _)) (by simp only [inK]; (exact fin0_uListR_ok)) (by simp only [inK]; (exact fin0_uListR_ok)) (OwnL.ow (Ow.ownl q8_0_2 rfl mnil) rfl))) Tryz.underlying45 (cellsAt_one rfl rfl) (by simp only [maxLen]; (exact fin0_uListR_ok)) (by exact fin0_uListR_ok) (by decide) (fun v12 m12 ho12 => ?_)
      obtain ⟨A12, c12, rfl, l12, k12⟩ := ho12.slice
      simp only [maxLen] at k12
      refine VO.as ?_
      refine VO.k9 0 2 3 5 7 11 12 13 14 ?_
      refine outBN ?_
      refine outN ?_
      refine VC.reg ?_
      refine VO.y rfl (.add (c := ((k + 1 : Nat) : Int)) rfl rfl (by omega) ⟨by exact fin0_uListR_ok, by exact fin0_uListR_ok⟩) ?_
      refine VO.mv ?_
      refine VO.k9 0 2 3 5 7 11 12 13 14 ?_
      exact outN ⟨⟨k + 1, out ++ [x5], A12, c12, m12⟩, ⟨by omega, by (rw [ho]; exact (take_one ‹l_[k]? = some _›).symm), ho12⟩, by exact fin0_uListR_ok, ⟨⟨rfl, rfl, rfl, rfl, rfl, rfl, rfl, trivial⟩, fun _ h => Inv.sub h [103, 0]⟩⟩
    · -- FF
      refine VC.exit ?_
      refine outE ?_
      refine outE ?_
      refine outBB ?_
      refine outN ?_
      refine VC.rs ?_
      refine VO.mv ?_
      refine VO.as ?_
      refine VO.kp [103, 0] [(103, out_m), (0, wm W)] ?_
      refine VO.k8 0 2 3 7 11 12 13 14 ?_
      refine VC.ret ?_
      refine ⟨_, _, res_run (rs := [.tmp 2]) rfl (.tmp rfl .nil), fun W_ hI => out_of (l := [out_m]) hI [103] rfl rfl (mle_refl _) (fun hS_ => ?_)⟩
      dsimp only [packV]
      have he0 : (l_ : Ty.Den (.sl TRun)) = out := by first | rfl | (rw [ho, List.take_of_length_le (by omega)])
      refine ⟨Value.slice out_A (out.length) (out_c), ?_, ?_⟩
      rotate_left
      · rw [he0]; exact (Ow.up h_out (hS_.1 _ (.head _)))
      all_goals (first | rfl | (simp [*]; done))
theorem sOlderR_ok (W : World) {r_ : List DCommit} {l_ : List DRun} {br_ : Bool} {D_ : DdiskDisk} {gd_ : Nat} {gu_ : Nat} {T_ : DtableTable} {gt_ : Nat} {g0 : Nat} (h0 : Rd (.ptr TstoreStore) (wm W) [.pointer (some ⟨g0, 0, none⟩)] (g0, ((gt_, T_), (gu_, ((gd_, D_), br_, l_)), r_))) (e0 : okU l_) : CallR Tryz.prog 95 [.pointer (some ⟨g0, 0, none⟩)] W (mnil) (fun v m' => ∃ (s0 : Nat), v = .pointer (some ⟨s0, 0, none⟩) ∧ Ow (.ptr TtableTable) m' [.pointer (some ⟨s0, 0, none⟩)] (s0, sOld l_)) := by
  have hll := okU_len e0
  have rp0_k := h0
  obtain ⟨_, rp0_rc, rp0_E, rp0_h, rp0_r⟩ := rp0_k
  obtain ⟨rp0_A2, rp0_c2, rfl, rp0_0, rp0_1, rp0_2⟩ := open_storeStore (x0 := (gt_, T_)) (x1 := (gu_, ((gd_, D_), br_, l_))) (x2 := r_) rp0_r
  dsimp only at rp0_0
  dsimp only at rp0_1
  have rp0_r2 := Rd.room rp0_2
  have rp0_b : cellsAt (wm W) g0 0 3 [Value.pointer (some ⟨gt_, 0, none⟩), Value.pointer (some ⟨gu_, 0, none⟩), Value.slice rp0_A2 (r_.length) (rp0_c2)] := (cellsAt_one rfl rfl).mono (mone_le rp0_h)
  have rp0_1q_k := rp0_1
  obtain ⟨_, rp0_1q_rc, rp0_1q_E, rp0_1q_h, rp0_1q_r⟩ := rp0_1q_k
  obtain ⟨rp0_1q_A2, rp0_1q_c2, rfl, rp0_1q_0, rp0_1q_2⟩ := open_runRuns (x0 := (gd_, D_)) (x1 := br_) (x2 := l_) rp0_1q_r
  dsimp only at rp0_1q_0
  have rp0_1q_r2 := Rd.room rp0_1q_2
  have rp0_1q_b : cellsAt (wm W) gu_ 0 3 [Value.pointer (some ⟨gd_, 0, none⟩), Value.bool br_, Value.slice rp0_1q_A2 (l_.length) (rp0_1q_c2)] := (cellsAt_one rfl rfl).mono (mone_le rp0_1q_h)
  refine CallR.ofA (n := 23) Tryz.func95 rfl rfl rfl ?_
  refine VC.rs ?_
  refine VO.as ?_
  refine VO.k2 0 2 ?_
  refine VC.rs ?_
  refine VO.callN 101 rfl fnOk23 rfl (fun W hW => tNew_ok W ) (fun v1 m1 hv1 => ?_)
  obtain ⟨s1_0, rfl, f1_0⟩ := hv1
  refine VO.as ?_
  refine VO.k3 0 2 3 ?_
  refine VC.seq ?_
  refine VC.rs ?_
  refine VO.mv ?_
  refine VO.y rfl (.nilp rfl) ?_
  refine VO.y rfl (.fa rfl tst40 rfl) ?_
  refine VO.y rfl (.ld1 0 rfl tk38 rfl (rp0_b.at1 (j := 1) rfl)) ?_
  refine VO.callN 102 rfl fnOk130 rfl (fun W hW => uListR_ok W (Rd.mono rp0_1 (hW.at (i := 0) rfl)) (by assumption)) (fun v2 m2 hv2 => ?_)
  try dsimp only at hv2
  obtain ⟨s2_0, rfl, f2_0⟩ := hv2
  obtain ⟨A2_0, c2_0, eq2_0, l2_0, k2_0⟩ := f2_0.slice
  subst eq2_0
  simp only [maxLen] at k2_0
  refine VO.y rfl (.lenS rfl tsl45) ?_
  refine VO.mv ?_
  refine VO.kp [102, 101, 0] [(102, m2), (101, m1), (0, wm W)] ?_
  refine VO.k6 0 2 3 11 12 13 ?_
  refine VC.block ?_
  refine VC.loop (G := Nat × DtableTable × Mem) (fun g => [(13, Value.int .i64 ((((g.1) : Nat) : Int))), (0, Value.pointer (some ⟨g0, 0, none⟩)), (2, Value.pointer none), (3, Value.pointer (some ⟨s1_0, 0, none⟩)), (11, Value.slice A2_0 (l_.length) (c2_0)), (12, Value.int .i64 (((l_.length : Nat) : Int)))]) (fun g => [(102, m2), (101, (g.2.2)), (0, wm W)]) (fun g => ((g.1) ≤ l_.length) ∧ ((g.2.1) = sOld (l_.take (g.1))) ∧ (Ow (.ptr TtableTable) (g.2.2) [.pointer (some ⟨s1_0, 0, none⟩)] (s1_0, (g.2.1)))) (fun g => l_.length - (g.1)) (0, ([] : MapD), m1) (⟨by omega, by rfl, f1_0⟩) ⟨⟨rfl, rfl, rfl, rfl, rfl, rfl, trivial⟩, fun _ h => h.sub [102, 101, 0]⟩ ?_
  rintro ⟨k, t, t_m⟩ ⟨hk, ht, h_t⟩
  replace hk : k ≤ l_.length := hk
  replace ht : t = sOld (l_.take k) := ht
  replace h_t : Ow (.ptr TtableTable) t_m [.pointer (some ⟨s1_0, 0, none⟩)] (s1_0, t) := h_t
  show VC _ _ _ _ _ [(13, Value.int .i64 (((k : Nat) : Int))), (0, Value.pointer (some ⟨g0, 0, none⟩)), (2, Value.pointer none), (3, Value.pointer (some ⟨s1_0, 0, none⟩)), (11, Value.slice A2_0 (l_.length) (c2_0)), (12, Value.int .i64 (((l_.length : Nat) : Int)))] [(102, m2), (101, t_m), (0, wm W)]
  refine VC.rs ?_
  refine VO.y rfl (.lss rfl rfl) ?_
  refine VO.k7 0 2 3 11 12 13 14 ?_
  refine VC.seq ?_
  refine VC.cond rfl (fun hc3 => ?_) (fun hc3 => ?_)
  · -- T
    refine VC.skip ?_
    refine outN ?_
    refine VC.seq ?_
    refine VC.block ?_
    refine VC.rs ?_
    obtain ⟨x4, hx4⟩ : ∃ z_, (l_)[k]? = some z_ := ⟨_, List.getElem?_eq_getElem bd⟩
    obtain ⟨gg4, oo4, ec4, ea4, hce4, hre4⟩ := (Ow.rd f2_0 (mle_refl _)).elem hx4
    cases ea4
    obtain ⟨q4_A2, q4_c2, rfl, q4_0, q4_1, q4_2⟩ := open_Run (x0 := x4.1) (x1 := x4.2.1) (x2 := x4.2.2) hre4
    simp only [inK] at q4_0
    simp only [inK] at q4_1
    have q4_r2 := Rd.room q4_2
    refine VO.y rfl (.ixI k rfl rfl tsl45 rfl bd) ?_
    refine VO.y rfl (.ldA 102 rfl tk92 rfl hce4) ?_
    refine VO.alloc 106 rfl tz92 (fun g5 => ?_)
    refine VO.store (k := 3) (c' := [Value.int .i64 (x4.1), Value.int .i64 (x4.2.1), Value.slice q4_A2 (x4.2.2.length) (q4_c2)]) 106 rfl rfl (.inl tk92) rfl rfl rfl rfl rfl ?_
    refine VO.k8 0 2 3 5 11 12 13 14 ?_
    refine VC.reg ?_
    refine VO.mv ?_
    refine VO.y rfl (.fa rfl tst92 rfl) ?_
    refine VO.y rfl (.ld1 106 rfl tk34 rfl (cellsAt_one rfl rfl)) ?_
    refine VO.call 101 rfl fnOk24 rfl rfl (fun W hW => tApply_ok W (hW.at (i := 101) rfl) h_t (Rd.mono q4_2 (hW.out (i := 101) (j := 102) rfl rfl))) (fun v7 m7 hv7 => ?_)
    obtain ⟨rfl, w7_0⟩ := hv7
    refine VO.kp [101, 106, 102, 0] [(101, m7), (106, mone g5 (.cells [Value.int .i64 (x4.1), Value.int .i64 (x4.2.1), Value.slice q4_A2 (x4.2.2.length) (q4_c2)].toArray 92 (0, 0))), (102, m2), (0, wm W)] ?_
    refine VO.k8 0 2 3 5 11 12 13 14 ?_
    refine outBN ?_
    refine outN ?_
    refine VC.reg ?_
    refine VO.y rfl (.add (c := ((k + 1 : Nat) : Int)) rfl rfl (by omega) ⟨bd, bd⟩) ?_
    refine VO.mv ?_
    refine VO.k8 0 2 3 5 11 12 13 14 ?_
    exact outN ⟨⟨k + 1, (mApply t x4.2.2).1, m7⟩, ⟨by omega, by (rw [ht]; exact (sOld_next ‹l_[k]? = some _›).symm), w7_0⟩, bd, ⟨⟨rfl, rfl, rfl, rfl, rfl, rfl, trivial⟩, fun _ h => Inv.sub h [102, 101, 0]⟩⟩
  · -- F
    refine VC.exit ?_
    refine outE ?_
    refine outE ?_
    refine outBB ?_
    refine outN ?_
    refine VC.rs ?_
    refine VO.mv ?_
    refine VO.as ?_
    refine VO.k7 0 2 3 11 12 13 14 ?_
    refine VC.ret ?_
    refine ⟨_, _, res_run (rs := [.tmp 2]) rfl (.tmp rfl .nil), fun W_ hI => out_of (l := [t_m]) hI [101] rfl rfl (mle_refl _) (fun hS_ => ?_)⟩
    dsimp only [packV]
    have he0 : (sOld l_ : DtableTable) = t := by first | rfl | ((rw [ht, List.take_of_length_le (by omega)]; done))
    refine ⟨s1_0, ?_, ?_⟩
    rotate_left
    · rw [he0]; exact (Ow.up h_t (hS_.1 _ (.head _)))
    all_goals (first | rfl | (simp [*]; done))
theorem fnOk43 : fnOk Tryz.prog 43 = true := by kernel_rfl
theorem fnOk44 : fnOk Tryz.prog 44 = true := by kernel_rfl
theorem fnOk95 : fnOk Tryz.prog 95 = true := by kernel_rfl
theorem fnOk97 : fnOk Tryz.prog 97 = true := by kernel_rfl
theorem tz34 : tz Tryz.prog 34 = some [.slice none 0 0] := by kernel_rfl
theorem Seps.consM {a m : Mem} {l : List Mem} (hd : mdj a m) (h : Seps m l) : Seps (mun a m) (a :: l) :=
  ⟨fun x hx => by
    rcases List.mem_cons.1 hx with rfl | hx
    · exact mle_un_left _ _
    · exact (h.1 x hx).trans (mle_un_right hd), List.pairwise_cons.2 ⟨fun x hx => hd.mono (mle_refl _) (h.1 x hx), h.2⟩⟩
theorem Inv.thr {w0 W W' : World} {Ω : Ctx} {m b : Mem} (h : Inv w0 Ω W) (h0 : cget Ω 0 = some b) (h1 : cget (cdel Ω 0) 1 = some m) (h2 : Inv W [(0, mout (wm W) m), (1, m)] W') : Inv w0 [(0, b), (1, m), (2, mnil)] W' := by
  obtain ⟨k1, k2, k3⟩ := own_of 1 h0 h1 W h
  refine ⟨h2.os.trans h.os, h2.tape.trans h.tape, h2.output.trans h.output, Nat.le_trans h.size h2.size, fun p hp => ?_, List.pairwise_cons.2 ⟨fun p hp => ?_, List.pairwise_cons.2 ⟨fun p hp => ?_, List.pairwise_singleton _ _⟩⟩⟩
  · simp only [List.mem_cons, List.not_mem_nil, or_false] at hp
    rcases hp with rfl | rfl | rfl
    · exact (mle_out k1 k3.symm).trans (h2.at (i := 0) rfl)
    · exact h2.at (i := 1) rfl
    · exact mle_nil _
  · simp only [List.mem_cons, List.not_mem_nil, or_false] at hp
    rcases hp with rfl | rfl
    · exact k3.symm
    · exact mdj_nil _
  · simp only [List.mem_cons, List.not_mem_nil, or_false] at hp
    subst hp; exact mdj_nil _
theorem tell_ok (W : World) {o : DOp} {gY EY lp : Nat} {m : Mem} {Post : Value → Mem → Prop} (hm : mle m (wm W)) (hb : mle (mone gY (.cells [(.func (.yield lp) #[] #[] : Value)].toArray EY (0, 0))) (mout (wm W) m)) (hn : o.1 = false → Post (.bool true) m)
    (hy : o.1 = true → ∀ W', Inv W [(0, mout (wm W) m), (1, m)] W' → YldR Tryz.prog lp [str o.2.1, str o.2.2] W' m Post) : CallR Tryz.prog 97 [.agg [.bool o.1, str o.2.1, str o.2.2].toArray, .pointer (some ⟨gY, 0, none⟩)] W m Post := by
  have hcb : cellsAt (mout (wm W) m) gY 0 1 [(.func (.yield lp) #[] #[] : Value)] := (cellsAt_one rfl rfl).mono hb
  refine CallR.ofX (n := 15) Tryz.func97 rfl rfl rfl hm ?_
  refine VX.rs ?_
  refine VO.box (cs := [.bool o.1, str o.2.1, str o.2.2]) 102 rfl rfl rfl (fun g1 => ?_)
  refine VO.as ?_
  refine VO.nil ?_
  refine VX.seq ?_
  refine VX.regL _ (hix := ?_) (VL.pre (r := [9, 10, 11]) 9 (by kernel_rfl) ?_)
  · kernel_rfl
  refine VO.y rfl (.fa rfl tst64 rfl) ?_
  refine VO.y rfl (.ld1 102 rfl tk4 rfl (cellsAt_one rfl rfl)) ?_
  refine VO.y rfl (.not rfl) ?_
  refine VO.mv ?_
  refine VO.decBN (t := 7) rfl (fun hp => ?_) (fun hp => ?_)
  · refine VO.gN ?_
    refine VO.gN ?_
    refine VO.gN ?_
    refine VO.gN ?_
    refine VO.gN ?_
    refine VO.nil ?_
    refine VL.skip rfl rfl ⟨_, rfl, rfl⟩ ?_
    refine VL.post 10 rfl (by kernel_rfl) ?_
    refine VO.y rfl (.pT rfl rfl) ?_
    refine VO.as ?_
    refine VO.nil ?_
    refine outN (VX.ret ?_)
    refine ⟨_, _, res_run (rs := [.tmp 3]) rfl (.tmp rfl .nil), fun W_ hI_ => out_of (l := [m]) hI_ [1] rfl rfl (mle_refl _) (fun hS_ => ?_)⟩
    show Post (.bool true) (mun m mnil)
    rw [mun_nil]; exact hn hp
  · refine VO.gy rfl ⟨_, rfl, rfl⟩ (.ld1 0 rfl (by kernel_rfl) rfl hcb) ?_
    refine VO.gy rfl ⟨_, rfl, rfl⟩ (.fa rfl tst64 rfl) ?_
    refine VO.gy rfl ⟨_, rfl, rfl⟩ (.ld1 102 rfl tk9 rfl (cellsAt_one rfl rfl)) ?_
    refine VO.gy rfl ⟨_, rfl, rfl⟩ (.fa rfl tst64 rfl) ?_
    refine VO.gy rfl ⟨_, rfl, rfl⟩ (.ld1 102 rfl tk9 rfl (cellsAt_one rfl rfl)) ?_
    refine VO.nil ?_
    refine VL.yield 1 rfl rfl (.inr ⟨_, _, rfl, _, rfl, rfl⟩) rfl rfl rfl (fun W' hW => hy hp W' (hW.sub [0, 1])) (fun v m' hv => ?_)
    refine VL.post 10 rfl (by kernel_rfl) ?_
    refine VO.y rfl (.pF rfl rfl) ?_
    refine VO.as ?_
    refine VO.nil ?_
    refine outN (VX.ret ?_)
    refine ⟨_, _, res_run (rs := [.tmp 3]) rfl (.tmp rfl .nil), fun W_ hI_ => out_of (l := [m']) hI_ [1] rfl rfl (mle_refl _) (fun hS_ => ?_)⟩
    show Post v (mun m' mnil)
    rw [mun_nil]; exact hv
theorem VX.later {P : Program} {n : Nat} {w0 : World} {ρ d : Option Nat} {c : Code} {R : Option Nat → Exit → Env → Ctx → Prop} {S : Type} {J : S → Prop} (Sf : S → Env) (Cf : S → Ctx) {Goal : Prop} (main : (∀ s, J s → VX P n w0 ρ c R d (Sf s) (Cf s)) → Goal) (rest : ∀ s, J s → VX P n w0 ρ c R d (Sf s) (Cf s)) : Goal := main rest
abbrev a2E (go gB : Nat) (Ay : Option Addr) (ny cy i j : Nat) : Env := [(2, .pointer (some ⟨go, 0, none⟩)), (4, .int .i64 (i : Int)), (5, .func (.func 97) #[] #[.pointer (some ⟨gB, 0, none⟩)]), (9, .slice Ay ny cy), (10, .int .i64 (ny : Int)), (11, .int .i64 (j : Int))]
abbrev a2O (gO : Nat) (x : DOp) : Mem := mone gO (.cells [.bool x.1, str x.2.1, str x.2.2].toArray 64 (0, 0))
theorem all2_ok {old young : List DOp} {gy go : Nat} {Ay Ao : Option Addr} {cy co : Nat} {m mY mO : Mem} (hS : Seps m [mone gy (.cells [(.slice Ay young.length cy : Value)].toArray 34 (0, 0)), mone go (.cells [(.slice Ao old.length co : Value)].toArray 34 (0, 0)), mY, mO])
    (hY : Ow (.sl TOp) mY [.slice Ay young.length cy] young) (hO : Ow (.sl TOp) mO [.slice Ao old.length co] old) (hly : young.length ≤ 1000000000) (hlo : old.length ≤ 1000000000) :
    IterOk Tryz.prog 96 [.pointer (some ⟨gy, 0, none⟩), .pointer (some ⟨go, 0, none⟩)] m (lvE (mrg young old)) vsN 0 (lvD (mrg young old)) := by
  intro G M I X lp W g0 h0 hm hdj hy
  obtain ⟨lY, kY⟩ := Ow.rm hY
  obtain ⟨lO, kO⟩ := Ow.rm hO
  obtain ⟨L, hL⟩ : ∃ L, L = mrg young old := ⟨_, rfl⟩
  rw [← hL] at hy ⊢
  refine CallR.ofX (n := 72) Tryz.func96 rfl rfl rfl hm ?_
  refine VX.parts 1 [1, 2, 3, 4, 5] rfl (Seps.consM hdj hS) ?_
  refine VX.rs ?_
  refine VO.box (cs := [.func (.yield lp) #[] #[]]) 6 rfl rfl rfl (fun gB => ?_)
  refine VO.nil ?_
  refine VX.rs ?_
  refine VO.as ?_
  refine VO.nil ?_
  refine VX.rs ?_
  refine VO.y rfl (.mkf rfl) ?_
  refine VO.as ?_
  refine VO.nil ?_
  refine VX.seq ?_
  refine VX.rs ?_
  refine VO.y rfl (.ld1 2 rfl tk34 rfl (cellsAt_one rfl rfl)) ?_
  refine VO.y rfl (.lenS rfl tsl34) ?_
  refine VO.mv ?_
  refine VO.k6 2 4 5 9 10 11 ?_
  refine VX.block ?_
  refine VX.loop (G := Nat × Nat × List DOp × G) (fun s => a2E go gB Ay young.length cy s.1 s.2.1) (fun s => [(1, M s.2.2.2), (2, mone gy (.cells [(.slice Ay young.length cy : Value)].toArray 34 (0, 0))), (3, mone go (.cells [(.slice Ao old.length co : Value)].toArray 34 (0, 0))), (4, mY), (5, mO), (6, mone gB (.cells [(.func (.yield lp) #[] #[] : Value)].toArray 114 (0, 0))), (0, mout (wm W) (mun (M g0) m))])
    (fun s => L = s.2.2.1 ++ mrg (young.drop s.2.1) (old.drop s.1) ∧ I (cnt s.2.2.1) s.2.2.2 ∧ s.1 ≤ old.length ∧ s.2.1 ≤ young.length) (fun s => young.length - s.2.1) (0, 0, [], g0) ⟨by rw [hL]; rfl, h0, Nat.zero_le _, Nat.zero_le _⟩ ⟨⟨rfl, rfl, rfl, rfl, rfl, rfl, trivial⟩, fun _ h => h.sub [1, 2, 3, 4, 5, 6, 0]⟩ ?_
  rintro ⟨i, j, out, g⟩ ⟨hl, hI, hi, hj⟩
  dsimp only at hl hI hi hj
  show VX _ _ _ _ _ _ _ (a2E go gB Ay young.length cy i j) [(1, M g), (2, mone gy (.cells [(.slice Ay young.length cy : Value)].toArray 34 (0, 0))), (3, mone go (.cells [(.slice Ao old.length co : Value)].toArray 34 (0, 0))), (4, mY), (5, mO), (6, mone gB (.cells [(.func (.yield lp) #[] #[] : Value)].toArray 114 (0, 0))), (0, mout (wm W) (mun (M g0) m))]
  refine VX.rs ?_
  refine VO.y rfl (.lss rfl rfl) ?_
  refine VO.nil ?_
  refine VX.seq ?_
  refine VX.cond rfl (fun hc => ?_) (fun hc => ?_)
  · refine VX.skip (outN ?_)
    refine VX.seq (VX.block ?_)
    obtain ⟨x, hx⟩ : ∃ x, young[j]? = some x := ⟨_, List.getElem?_eq_getElem (by omega)⟩
    obtain ⟨gg, oo, ec, ea, hce, hre⟩ := (hY.rd (mle_refl _)).elem hx
    cases ea
    obtain ⟨rfl, q1, q2⟩ := open_Op (x0 := x.1) (x1 := x.2.1) (x2 := x.2.2) hre
    refine VX.rs ?_
    refine VO.y rfl (.ixI j rfl rfl tsl34 rfl (by omega)) ?_
    refine VO.y rfl (.ldA 4 rfl (by kernel_rfl) rfl hce) ?_
    refine VO.alloc 7 rfl (show tz Tryz.prog 64 = some [.bool false, str [], str []] by kernel_rfl) (fun gO => ?_)
    refine VO.store (k := 3) (c' := [.bool x.1, str x.2.1, str x.2.2]) 7 rfl rfl (.inl (by kernel_rfl)) rfl rfl rfl rfl rfl ?_
    refine VO.k7 2 4 5 9 10 11 7 ?_
    apply VX.later (P := Tryz.prog) (n := 72) (w0 := W) (ρ := none) (d := none) (S := Nat × List DOp × G) (J := fun s => L = s.2.1 ++ mrg (young.drop j) (old.drop s.1) ∧ I (cnt s.2.1) s.2.2 ∧ s.1 ≤ old.length ∧ ∀ y, old[s.1]? = some y → ¬ kl y.2.1 x.2.1) (fun s => ((7, .pointer (some ⟨gO, 0, none⟩)) :: a2E go gB (some ⟨gg, oo, none⟩) young.length cy s.1 j)) (fun s => [(1, M s.2.2), (7, a2O gO x), (2, mone gy (.cells [(.slice (some ⟨gg, oo, none⟩) young.length cy : Value)].toArray 34 (0, 0))), (3, mone go (.cells [(.slice Ao old.length co : Value)].toArray 34 (0, 0))), (4, mY), (5, mO), (6, mone gB (.cells [(.func (.yield lp) #[] #[] : Value)].toArray 114 (0, 0))), (0, mout (wm W) (mun (M g0) m))])
    · intro rest
      refine VX.seq (VX.block ?_)
      refine VX.loop (G := Nat × List DOp × G) (fun s => (7, .pointer (some ⟨gO, 0, none⟩)) :: a2E go gB (some ⟨gg, oo, none⟩) young.length cy s.1 j) (fun s => [(1, M s.2.2), (7, a2O gO x), (2, mone gy (.cells [(.slice (some ⟨gg, oo, none⟩) young.length cy : Value)].toArray 34 (0, 0))), (3, mone go (.cells [(.slice Ao old.length co : Value)].toArray 34 (0, 0))), (4, mY), (5, mO), (6, mone gB (.cells [(.func (.yield lp) #[] #[] : Value)].toArray 114 (0, 0))), (0, mout (wm W) (mun (M g0) m))])
        (fun s => L = s.2.1 ++ mrg (young.drop j) (old.drop s.1) ∧ I (cnt s.2.1) s.2.2 ∧ s.1 ≤ old.length) (fun s => old.length - s.1) (i, out, g) ⟨hl, hI, hi⟩ ⟨⟨rfl, rfl, rfl, rfl, rfl, rfl, rfl, trivial⟩, fun _ h => h.sub [1, 7, 2, 3, 4, 5, 6, 0]⟩ ?_
      rintro ⟨i, out, g⟩ ⟨hl, hI, hi⟩
      dsimp only at hl hI hi
      show VX _ _ _ _ _ _ _ ((7, .pointer (some ⟨gO, 0, none⟩)) :: a2E go gB (some ⟨gg, oo, none⟩) young.length cy i j) [(1, M g), (7, a2O gO x), (2, mone gy (.cells [(.slice (some ⟨gg, oo, none⟩) young.length cy : Value)].toArray 34 (0, 0))), (3, mone go (.cells [(.slice Ao old.length co : Value)].toArray 34 (0, 0))), (4, mY), (5, mO), (6, mone gB (.cells [(.func (.yield lp) #[] #[] : Value)].toArray 114 (0, 0))), (0, mout (wm W) (mun (M g0) m))]
      refine VX.seq (VX.seq ?_)
      refine VX.regD _ 14 [(0, true), (1, true), (2, true), (3, true), (4, true), (5, true), (6, true), (7, true), (8, true), (9, true), (10, true), (11, true), (12, true), (13, true)] follows (by kernel_rfl) (fun _ h => h.sub [7, 3, 5]) ?_
      refine VD.y rfl rfl (.inl rfl) (.mv rfl) ?_
      refine VD.y rfl rfl (.inl rfl) (.ld1 3 rfl tk34 rfl (cellsAt_one rfl rfl)) ?_
      refine VD.y rfl rfl (.inl rfl) (.lenS rfl tsl34) ?_
      refine VD.y rfl rfl (.inl rfl) (.lss rfl rfl) ?_
      refine VD.y rfl rfl (.inl rfl) (.mv rfl) ?_
      refine VD.dec (s := 19) rfl (fun hb => ?_) (fun hb => ?_)
      · obtain ⟨y, hyy⟩ : ∃ y, old[i]? = some y := ⟨_, List.getElem?_eq_getElem (by omega)⟩
        obtain ⟨g2, o2, ec2, ea2, hce2, hre2⟩ := (hO.rd (mle_refl _)).elem hyy
        obtain ⟨rfl, z1, z2⟩ := open_Op (x0 := y.1) (x1 := y.2.1) (x2 := y.2.2) hre2
        refine VD.y rfl rfl (.inr ⟨_, _, rfl, _, rfl, rfl⟩) (.ld1 3 rfl tk34 rfl (cellsAt_one rfl rfl)) ?_
        refine VD.y rfl rfl (.inr ⟨_, _, rfl, _, rfl, rfl⟩) (.mv rfl) ?_
        refine VD.y rfl rfl (.inr ⟨_, _, rfl, _, rfl, rfl⟩) (.ixI i (by rw [← ea2]; rfl) rfl tsl34 rfl (by omega)) ?_
        refine VD.y rfl rfl (.inr ⟨_, _, rfl, _, rfl, rfl⟩) (.fa rfl tst64 rfl) ?_
        refine VD.y rfl rfl (.inr ⟨_, _, rfl, _, rfl, rfl⟩) (.ld1 5 rfl tk9 rfl (hce2.at1 (j := 1) rfl)) ?_
        refine VD.y rfl rfl (.inr ⟨_, _, rfl, _, rfl, rfl⟩) (.fa rfl tst64 rfl) ?_
        refine VD.y rfl rfl (.inr ⟨_, _, rfl, _, rfl, rfl⟩) (.ld1 7 rfl tk9 rfl (cellsAt_one rfl rfl)) ?_
        refine VD.y rfl rfl (.inr ⟨_, _, rfl, _, rfl, rfl⟩) (.slss rfl rfl) ?_
        refine VD.y rfl rfl (.inl rfl) (.pT rfl rfl) ?_
        refine VD.nil rfl ?_ rfl
        refine VO.nil ?_
        refine outN (VX.cond rfl (fun hk => ?_) (fun hk => ?_))
        · refine VX.skip (outN ?_)
          refine VX.seq (VX.block ?_)
          have hl2 := mg_lt hl hx hyy hk
          refine VX.rs ?_
          refine VO.mv ?_
          refine VO.y rfl (.ld1 3 rfl tk34 rfl (cellsAt_one rfl rfl)) ?_
          refine VO.mv ?_
          refine VO.y rfl (.ixI i (by rw [← ea2]; rfl) rfl tsl34 rfl (by omega)) ?_
          refine VO.y rfl (.ldA 5 rfl (by kernel_rfl) rfl hce2) ?_
          refine VO.callV 1 rfl rfl fnOk97 rfl rfl (fun W' hW' => tell_ok W' (o := y) (Post := fun v m' => ∃ g', m' = M g' ∧ ((v = .bool true ∧ I (cnt (out ++ [y])) g') ∨ (v = .bool false ∧ X g'))) (hW'.at (i := 1) rfl) (hW'.out (i := 1) (j := 6) rfl rfl) (fun hp => ⟨g, rfl, .inl ⟨rfl, by rw [mg_no hp]; exact hI⟩⟩) (fun hp W2 hW2 => by have h_ := hy (cnt out) g _ mnil W2 hI (mg_E (List.append_assoc _ _ _ ▸ hl2) hp z1 z2) (hW'.thr rfl rfl hW2); rw [mun_nil, ← mg_yes hp] at h_; exact h_)) (fun v m' hv => ?_)
          obtain ⟨g', rfl, hv⟩ := hv
          rcases hv with ⟨rfl, hI'⟩ | ⟨rfl, hX⟩
          · refine VO.y rfl (.not rfl) ?_
            refine VO.nil ?_
            refine VX.condF rfl ?_
            refine VX.skip (outBN (outN ?_))
            refine VX.reg ?_
            refine VO.mv ?_
            refine VO.y rfl (.add (c := ((i + 1 : Nat) : Int)) rfl rfl (by omega) ⟨by omega, by omega⟩) ?_
            refine VO.as ?_
            refine VO.nil ?_
            exact outN ⟨rfl, (i + 1, out ++ [y], g'), ⟨hl2, hI', by dsimp only; omega⟩, by dsimp only; omega, ⟨⟨rfl, rfl, rfl, rfl, rfl, rfl, rfl, trivial⟩, fun _ h => h.sub [1, 7, 2, 3, 4, 5, 6, 0]⟩⟩
          · refine VO.y rfl (.not rfl) ?_
            refine VO.nil ?_
            refine VX.condT rfl ?_
            refine VX.ret (outBR (outR (outR (outBR (outR (outBR (outR (outR (outBR (outR ?_))))))))))
            exact ⟨_, _, res_run (rs := []) rfl .nil, fun W_ hI_ => out_of (l := [M g']) hI_ [1] rfl rfl (mle_refl _) (fun hS_ => ⟨g', mun_nil _, .inl hX⟩)⟩
        · refine VX.exit (outE (outE (outBB (outN ?_))))
          exact VX.esub _ (by exact ⟨rfl, rfl, rfl, rfl, rfl, rfl, rfl, trivial⟩) (VX.inv _ (fun _ h => h.sub [1, 7, 2, 3, 4, 5, 6, 0]) (rest (i, out, g) ⟨hl, hI, hi, fun y' hy' => by rw [hyy] at hy'; cases hy'; exact hk⟩))
      · refine VD.gn rfl rfl (.inl ⟨_, rfl, rfl⟩) ?_
        refine VD.gn rfl rfl (.inl ⟨_, rfl, rfl⟩) ?_
        refine VD.gn rfl rfl (.inl ⟨_, rfl, rfl⟩) ?_
        refine VD.gn rfl rfl (.inl ⟨_, rfl, rfl⟩) ?_
        refine VD.gn rfl rfl (.inl ⟨_, rfl, rfl⟩) ?_
        refine VD.gn rfl rfl (.inl ⟨_, rfl, rfl⟩) ?_
        refine VD.gn rfl rfl (.inl ⟨_, rfl, rfl⟩) ?_
        refine VD.gn rfl rfl (.inl ⟨_, rfl, rfl⟩) ?_
        refine VD.y rfl rfl (.inl rfl) (.pF rfl rfl) ?_
        refine VD.nil rfl ?_ rfl
        refine VO.nil ?_
        refine outN (VX.condF rfl ?_)
        refine VX.exit (outE (outE (outBB (outN ?_))))
        exact VX.esub _ (by exact ⟨rfl, rfl, rfl, rfl, rfl, rfl, rfl, trivial⟩) (VX.inv _ (fun _ h => h.sub [1, 7, 2, 3, 4, 5, 6, 0]) (rest (i, out, g) ⟨hl, hI, hi, fun y' hy' => by have h_ := (List.getElem?_eq_some_iff.1 hy').1; omega⟩))
    · rintro ⟨i, out, g⟩ ⟨hl, hI, hi, hE⟩
      dsimp only at hl hI hi hE
      refine VX.seq (VX.seq ?_)
      apply VX.later (P := Tryz.prog) (n := 72) (w0 := W) (ρ := none) (d := none) (S := Nat) (J := fun s => L = (out ++ [x]) ++ mrg (young.drop (j + 1)) (old.drop s) ∧ s ≤ old.length) (fun s => ((7, .pointer (some ⟨gO, 0, none⟩)) :: a2E go gB (some ⟨gg, oo, none⟩) young.length cy s j)) (fun s => [(1, M g), (7, a2O gO x), (2, mone gy (.cells [(.slice (some ⟨gg, oo, none⟩) young.length cy : Value)].toArray 34 (0, 0))), (3, mone go (.cells [(.slice Ao old.length co : Value)].toArray 34 (0, 0))), (4, mY), (5, mO), (6, mone gB (.cells [(.func (.yield lp) #[] #[] : Value)].toArray 114 (0, 0))), (0, mout (wm W) (mun (M g0) m))])
      · intro rest2
        refine VX.regD _ 14 [(0, true), (1, true), (2, true), (3, true), (4, true), (5, true), (6, true), (7, true), (8, true), (9, true), (10, true), (11, true), (12, true), (13, true)] follows (by kernel_rfl) (fun _ h => h.sub [7, 3, 5]) ?_
        refine VD.y rfl rfl (.inl rfl) (.mv rfl) ?_
        refine VD.y rfl rfl (.inl rfl) (.ld1 3 rfl tk34 rfl (cellsAt_one rfl rfl)) ?_
        refine VD.y rfl rfl (.inl rfl) (.lenS rfl tsl34) ?_
        refine VD.y rfl rfl (.inl rfl) (.lss rfl rfl) ?_
        refine VD.y rfl rfl (.inl rfl) (.mv rfl) ?_
        refine VD.dec (s := 42) rfl (fun hb => ?_) (fun hb => ?_)
        · obtain ⟨y, hyy⟩ : ∃ y, old[i]? = some y := ⟨_, List.getElem?_eq_getElem (by omega)⟩
          obtain ⟨g2, o2, ec2, ea2, hce2, hre2⟩ := (hO.rd (mle_refl _)).elem hyy
          obtain ⟨rfl, z1, z2⟩ := open_Op (x0 := y.1) (x1 := y.2.1) (x2 := y.2.2) hre2
          refine VD.y rfl rfl (.inr ⟨_, _, rfl, _, rfl, rfl⟩) (.ld1 3 rfl tk34 rfl (cellsAt_one rfl rfl)) ?_
          refine VD.y rfl rfl (.inr ⟨_, _, rfl, _, rfl, rfl⟩) (.mv rfl) ?_
          refine VD.y rfl rfl (.inr ⟨_, _, rfl, _, rfl, rfl⟩) (.ixI i (by rw [← ea2]; rfl) rfl tsl34 rfl (by omega)) ?_
          refine VD.y rfl rfl (.inr ⟨_, _, rfl, _, rfl, rfl⟩) (.fa rfl tst64 rfl) ?_
          refine VD.y rfl rfl (.inr ⟨_, _, rfl, _, rfl, rfl⟩) (.ld1 5 rfl tk9 rfl (hce2.at1 (j := 1) rfl)) ?_
          refine VD.y rfl rfl (.inr ⟨_, _, rfl, _, rfl, rfl⟩) (.fa rfl tst64 rfl) ?_
          refine VD.y rfl rfl (.inr ⟨_, _, rfl, _, rfl, rfl⟩) (.ld1 7 rfl tk9 rfl (cellsAt_one rfl rfl)) ?_
          refine VD.y rfl rfl (.inr ⟨_, _, rfl, _, rfl, rfl⟩) (.seql rfl rfl) ?_
          refine VD.y rfl rfl (.inl rfl) (.pT rfl rfl) ?_
          refine VD.nil rfl ?_ rfl
          refine VO.nil ?_
          refine outN (VX.cond rfl (fun hk => ?_) (fun hk => ?_))
          · refine VX.reg ?_
            refine VO.mv ?_
            refine VO.y rfl (.add (c := ((i + 1 : Nat) : Int)) rfl rfl (by omega) ⟨by omega, by omega⟩) ?_
            refine VO.as ?_
            refine VO.nil ?_
            exact outN (VX.esub _ (by exact ⟨rfl, rfl, rfl, rfl, rfl, rfl, rfl, trivial⟩) (VX.inv _ (fun _ h => h.sub [1, 7, 2, 3, 4, 5, 6, 0]) (rest2 (i + 1) ⟨mg_eq hl hx hyy (hE y hyy) hk, by omega⟩)))
          · exact VX.skip (outN (VX.esub _ (by exact ⟨rfl, rfl, rfl, rfl, rfl, rfl, rfl, trivial⟩) (VX.inv _ (fun _ h => h.sub [1, 7, 2, 3, 4, 5, 6, 0]) (rest2 i ⟨mg_gt hl hx hyy (hE y hyy) hk, hi⟩))))
        · refine VD.gn rfl rfl (.inl ⟨_, rfl, rfl⟩) ?_
          refine VD.gn rfl rfl (.inl ⟨_, rfl, rfl⟩) ?_
          refine VD.gn rfl rfl (.inl ⟨_, rfl, rfl⟩) ?_
          refine VD.gn rfl rfl (.inl ⟨_, rfl, rfl⟩) ?_
          refine VD.gn rfl rfl (.inl ⟨_, rfl, rfl⟩) ?_
          refine VD.gn rfl rfl (.inl ⟨_, rfl, rfl⟩) ?_
          refine VD.gn rfl rfl (.inl ⟨_, rfl, rfl⟩) ?_
          refine VD.gn rfl rfl (.inl ⟨_, rfl, rfl⟩) ?_
          refine VD.y rfl rfl (.inl rfl) (.pF rfl rfl) ?_
          refine VD.nil rfl ?_ rfl
          refine VO.nil ?_
          refine outN (VX.condF rfl ?_)
          exact VX.skip (outN (VX.esub _ (by exact ⟨rfl, rfl, rfl, rfl, rfl, rfl, rfl, trivial⟩) (VX.inv _ (fun _ h => h.sub [1, 7, 2, 3, 4, 5, 6, 0]) (rest2 i ⟨mg_nl hl hx (by omega), hi⟩))))
      · rintro i ⟨hl2, hi⟩
        refine VX.rs ?_
        refine VO.mv ?_
        refine VO.y rfl (.ldA 7 rfl (by kernel_rfl) rfl (cellsAt_one (k := 3) (cs := [.bool x.1, str x.2.1, str x.2.2]) rfl rfl)) ?_
        refine VO.callV 1 rfl rfl fnOk97 rfl rfl (fun W' hW' => tell_ok W' (o := x) (Post := fun v m' => ∃ g', m' = M g' ∧ ((v = .bool true ∧ I (cnt (out ++ [x])) g') ∨ (v = .bool false ∧ X g'))) (hW'.at (i := 1) rfl) (hW'.out (i := 1) (j := 6) rfl rfl) (fun hp => ⟨g, rfl, .inl ⟨rfl, by rw [mg_no hp]; exact hI⟩⟩) (fun hp W2 hW2 => by have h_ := hy (cnt out) g _ mnil W2 hI (mg_E (List.append_assoc _ _ _ ▸ hl2) hp q1 q2) (hW'.thr rfl rfl hW2); rw [mun_nil, ← mg_yes hp] at h_; exact h_)) (fun v m' hv => ?_)
        obtain ⟨g', rfl, hv⟩ := hv
        rcases hv with ⟨rfl, hI'⟩ | ⟨rfl, hX⟩
        · refine VO.y rfl (.not rfl) ?_
          refine VO.nil ?_
          refine VX.condF rfl ?_
          refine VX.skip (outBN (outN ?_))
          refine VX.reg ?_
          refine VO.y rfl (.add (c := ((j + 1 : Nat) : Int)) rfl rfl (by omega) ⟨by omega, by omega⟩) ?_
          refine VO.mv ?_
          refine VO.nil ?_
          exact outN ⟨rfl, (i, j + 1, out ++ [x], g'), ⟨hl2, hI', hi, by dsimp only; omega⟩, by dsimp only; omega, ⟨⟨rfl, rfl, rfl, rfl, rfl, rfl, trivial⟩, fun _ h => h.sub [1, 2, 3, 4, 5, 6, 0]⟩⟩
        · refine VO.y rfl (.not rfl) ?_
          refine VO.nil ?_
          refine VX.condT rfl ?_
          refine VX.ret (outBR (outR (outR (outBR (outR ?_)))))
          exact ⟨_, _, res_run (rs := []) rfl .nil, fun W_ hI_ => out_of (l := [M g']) hI_ [1] rfl rfl (mle_refl _) (fun hS_ => ⟨g', mun_nil _, .inl hX⟩)⟩
  · refine VX.exit (outE (outE (outBB (outN ?_))))
    refine VX.block ?_
    refine VX.loop (G := Nat × List DOp × G) (fun s => a2E go gB Ay young.length cy s.1 j) (fun s => [(1, M s.2.2), (3, mone go (.cells [(.slice Ao old.length co : Value)].toArray 34 (0, 0))), (5, mO), (6, mone gB (.cells [(.func (.yield lp) #[] #[] : Value)].toArray 114 (0, 0))), (0, mout (wm W) (mun (M g0) m))])
      (fun s => L = s.2.1 ++ old.drop s.1 ∧ I (cnt s.2.1) s.2.2 ∧ s.1 ≤ old.length) (fun s => old.length - s.1) (i, out, g) ⟨mg_fin hl (by omega), hI, hi⟩ ⟨⟨rfl, rfl, rfl, rfl, rfl, rfl, trivial⟩, fun _ h => h.sub [1, 3, 5, 6, 0]⟩ ?_
    rintro ⟨i, out, g⟩ ⟨hl, hI, hi⟩
    dsimp only at hl hI hi
    show VX _ _ _ _ _ _ _ (a2E go gB Ay young.length cy i j) [(1, M g), (3, mone go (.cells [(.slice Ao old.length co : Value)].toArray 34 (0, 0))), (5, mO), (6, mone gB (.cells [(.func (.yield lp) #[] #[] : Value)].toArray 114 (0, 0))), (0, mout (wm W) (mun (M g0) m))]
    refine VX.seq (VX.rs ?_)
    refine VO.mv ?_
    refine VO.y rfl (.ld1 3 rfl tk34 rfl (cellsAt_one rfl rfl)) ?_
    refine VO.y rfl (.lenS rfl tsl34) ?_
    refine VO.y rfl (.lss rfl rfl) ?_
    refine VO.nil ?_
    refine VX.cond rfl (fun hc => ?_) (fun hc => ?_)
    · refine VX.skip (outN ?_)
      refine VX.seq (VX.block ?_)
      obtain ⟨y, hyy⟩ : ∃ y, old[i]? = some y := ⟨_, List.getElem?_eq_getElem (by omega)⟩
      obtain ⟨g2, o2, ec2, ea2, hce2, hre2⟩ := (hO.rd (mle_refl _)).elem hyy
      obtain ⟨rfl, z1, z2⟩ := open_Op (x0 := y.1) (x1 := y.2.1) (x2 := y.2.2) hre2
      have hl2 := mg_o hl hyy
      refine VX.rs ?_
      refine VO.mv ?_
      refine VO.y rfl (.ld1 3 rfl tk34 rfl (cellsAt_one rfl rfl)) ?_
      refine VO.mv ?_
      refine VO.y rfl (.ixI i (by rw [← ea2]; rfl) rfl tsl34 rfl (by omega)) ?_
      refine VO.y rfl (.ldA 5 rfl (by kernel_rfl) rfl hce2) ?_
      refine VO.callV 1 rfl rfl fnOk97 rfl rfl (fun W' hW' => tell_ok W' (o := y) (Post := fun v m' => ∃ g', m' = M g' ∧ ((v = .bool true ∧ I (cnt (out ++ [y])) g') ∨ (v = .bool false ∧ X g'))) (hW'.at (i := 1) rfl) (hW'.out (i := 1) (j := 6) rfl rfl) (fun hp => ⟨g, rfl, .inl ⟨rfl, by rw [mg_no hp]; exact hI⟩⟩) (fun hp W2 hW2 => by have h_ := hy (cnt out) g _ mnil W2 hI (mg_E (List.append_assoc _ _ _ ▸ hl2) hp z1 z2) (hW'.thr rfl rfl hW2); rw [mun_nil, ← mg_yes hp] at h_; exact h_)) (fun v m' hv => ?_)
      obtain ⟨g', rfl, hv⟩ := hv
      rcases hv with ⟨rfl, hI'⟩ | ⟨rfl, hX⟩
      · refine VO.y rfl (.not rfl) ?_
        refine VO.nil ?_
        refine VX.condF rfl ?_
        refine VX.skip (outBN (outN ?_))
        refine VX.reg ?_
        refine VO.mv ?_
        refine VO.y rfl (.add (c := ((i + 1 : Nat) : Int)) rfl rfl (by omega) ⟨by omega, by omega⟩) ?_
        refine VO.as ?_
        refine VO.nil ?_
        exact outN ⟨rfl, (i + 1, out ++ [y], g'), ⟨hl2, hI', by dsimp only; omega⟩, by dsimp only; omega, ⟨⟨rfl, rfl, rfl, rfl, rfl, rfl, trivial⟩, fun _ h => h.sub [1, 3, 5, 6, 0]⟩⟩
      · refine VO.y rfl (.not rfl) ?_
        refine VO.nil ?_
        refine VX.condT rfl ?_
        refine VX.ret (outBR (outR (outR (outBR ?_))))
        exact ⟨_, _, res_run (rs := []) rfl .nil, fun W_ hI_ => out_of (l := [M g']) hI_ [1] rfl rfl (mle_refl _) (fun hS_ => ⟨g', mun_nil _, .inl hX⟩)⟩
    · refine VX.exit (outE (outE (outBB ?_)))
      exact ⟨_, _, res_run (rs := []) rfl .nil, fun W_ hI_ => out_of (l := [M g]) hI_ [1] rfl rfl (mle_refl _) (fun hS_ => ⟨g, mun_nil _, .inr ⟨_, hI, mg_end hl (by omega)⟩⟩)⟩
set_option maxHeartbeats 8000000 in
theorem sAll_ok (W : World) {r_ : List DCommit} {l_ : List DRun} {br_ : Bool} {D_ : DdiskDisk} {gd_ : Nat} {gu_ : Nat} {T_ : DtableTable} {gt_ : Nat} {m0 : Mem} (hm : mle (m0) (wm W)) {g0 : Nat} (h0 : Ow (.ptr TstoreStore) m0 [.pointer (some ⟨g0, 0, none⟩)] (g0, ((gt_, T_), (gu_, ((gd_, D_), br_, l_)), r_))) (e0 : T_ = sT r_) (e1 : okU l_) (e2 : okS l_ r_) (e3 : l_.length ≤ 900) (e4 : r_.length ≤ 100000) : CallR Tryz.prog 50 [.pointer (some ⟨g0, 0, none⟩)] W (m0) (fun v m' => ∃ (s0 : List Value), ∃ (p0 : Mem), ∃ (p1 : Mem), v = .func (.func 96) #[] (List.toArray s0) ∧ Seps m' [p0, p1] ∧ IterOk Tryz.prog 96 s0 p0 (lvE (sList l_ r_)) vsN 0 (lvD (sList l_ r_)) ∧ Ow (.ptr TstoreStore) p1 [.pointer (some ⟨g0, 0, none⟩)] (g0, ((gt_, T_), (gu_, ((gd_, D_), br_, l_)), r_))) := by
  have hll := okU_len e1; have hsl := sT_len e2; rw [← e0] at hsl
  refine CallR.ofB (n := 18) hm Tryz.func50 rfl rfl rfl ?_
  refine VC.rs ?_
  refine VO.as ?_
  refine VO.k2 0 2 ?_
  refine VC.seq ?_
  refine VC.rs ?_
  refine VO.mv ?_
  refine VO.call 1 rfl fnOk40 rfl rfl (fun W hW => sNone_ok W (hW.at (i := 1) rfl) h0) (fun v1 m1 hv1 => ?_)
  try dsimp only at hv1
  obtain ⟨rfl, w1_0⟩ := hv1
  refine VO.k3 0 2 6 ?_
  refine VC.cond rfl (fun hc2 => ?_) (fun hc2 => ?_)
  · -- T
    exact hc2.elim
  · -- F
    refine VC.skip ?_
    refine outN ?_
    refine VC.seqJ (G := Nat × Nat × (List DOp) × (Option Addr) × Nat × Mem × (List DOp) × (Option Addr) × Nat × Mem × Mem) (fun g => [(3, Value.pointer (some ⟨(g.1), 0, none⟩)), (4, Value.pointer (some ⟨(g.2.1), 0, none⟩)), (0, Value.pointer (some ⟨g0, 0, none⟩)), (2, Value.nilFunc)]) (fun g => [(124, (g.2.2.2.2.2.2.2.2.2.2)), (123, mone (g.2.1) (.cells [Value.slice (g.2.2.2.2.2.2.2.1) ((g.2.2.2.2.2.2.1).length) ((g.2.2.2.2.2.2.2.2.1))].toArray 34 (0, 0))), (121, mone (g.1) (.cells [Value.slice (g.2.2.2.1) ((g.2.2.1).length) ((g.2.2.2.2.1))].toArray 34 (0, 0))), (116, (g.2.2.2.2.2.2.2.2.2.1)), (111, (g.2.2.2.2.2.1)), (0, mout (wm W) (m0))]) (fun g => ((g.2.2.1) = tL (sOld l_)) ∧ ((g.2.2.2.2.2.2.1) = tL T_) ∧ (OwnL TOp (g.2.2.2.2.2.1) mnil (.slice (g.2.2.2.1) (g.2.2.1).length (g.2.2.2.2.1)) (g.2.2.1)) ∧ (OwnL TOp (g.2.2.2.2.2.2.2.2.2.1) mnil (.slice (g.2.2.2.2.2.2.2.1) (g.2.2.2.2.2.2.1).length (g.2.2.2.2.2.2.2.2.1)) (g.2.2.2.2.2.2.1)) ∧ (Ow (.ptr TstoreStore) (g.2.2.2.2.2.2.2.2.2.2) [.pointer (some ⟨g0, 0, none⟩)] (g0, ((gt_, T_), (gu_, ((gd_, D_), br_, l_)), r_)))) ?_ ?_
    · -- F000000J
      rintro ⟨jo, jy, old, old_A, old_c, old_m, young, young_A, young_c, young_m, w_m⟩ ⟨hjo, hjy, h_old, h_young, h_w⟩
      replace hjo : old = tL (sOld l_) := hjo
      replace hjy : young = tL T_ := hjy
      replace h_old : OwnL TOp old_m mnil (.slice old_A old.length old_c) old := h_old
      replace h_young : OwnL TOp young_m mnil (.slice young_A young.length young_c) young := h_young
      replace h_w : Ow (.ptr TstoreStore) w_m [.pointer (some ⟨g0, 0, none⟩)] (g0, ((gt_, T_), (gu_, ((gd_, D_), br_, l_)), r_)) := h_w
      show VC _ _ _ _ _ [(3, Value.pointer (some ⟨jo, 0, none⟩)), (4, Value.pointer (some ⟨jy, 0, none⟩)), (0, Value.pointer (some ⟨g0, 0, none⟩)), (2, Value.nilFunc)] [(124, w_m), (123, mone jy (.cells [Value.slice young_A (young.length) (young_c)].toArray 34 (0, 0))), (121, mone jo (.cells [Value.slice old_A (old.length) (old_c)].toArray 34 (0, 0))), (116, young_m), (111, old_m), (0, mout (wm W) (m0))]
      have l_old : old.length ≤ old_c := by obtain ⟨_, _, he, hl, _⟩ := h_old.slice; simp only [Value.slice.injEq] at he; omega
      have k_old : old_c ≤ 9223372036854775807 := by obtain ⟨_, _, he, _, hl⟩ := h_old.slice; simp only [Value.slice.injEq, maxLen] at he hl; omega
      have l_young : young.length ≤ young_c := by obtain ⟨_, _, he, hl, _⟩ := h_young.slice; simp only [Value.slice.injEq] at he; omega
      have k_young : young_c ≤ 9223372036854775807 := by obtain ⟨_, _, he, _, hl⟩ := h_young.slice; simp only [Value.slice.injEq, maxLen] at he hl; omega
      have hyl : young.length = T_.length := by rw [hjy, tL_len]
      have hol : old.length = (sOld l_).length := by rw [hjo, tL_len]
      have hsl2 := sOld_len e1
      refine VC.rs ?_
      refine VO.y rfl (.mkf rfl) ?_
      refine VO.as ?_
      refine VO.k4 0 2 3 4 ?_
      refine VC.ret ?_
      refine ⟨_, _, res_run (rs := [.tmp 2]) rfl (.tmp rfl .nil), fun W_ hI => out_of (l := [mone jy (.cells [Value.slice young_A (young.length) (young_c)].toArray 34 (0, 0)), mone jo (.cells [Value.slice old_A (old.length) (old_c)].toArray 34 (0, 0)), young_m, old_m, w_m]) hI [123, 121, 116, 111, 124] rfl rfl (mle_refl _) (fun hS_ => ?_)⟩
      dsimp only [packV]
      have hm0_ : (((gt_, T_), (gu_, ((gd_, D_), br_, l_)), r_) : DstoreStore) = ((gt_, T_), (gu_, ((gd_, D_), br_, l_)), r_) := by first | rfl | (simp [*]; done)
      refine ⟨[Value.pointer (some ⟨jy, 0, none⟩), Value.pointer (some ⟨jo, 0, none⟩)], muns [mone jy (.cells [Value.slice young_A (young.length) (young_c)].toArray 34 (0, 0)), mone jo (.cells [Value.slice old_A (old.length) (old_c)].toArray 34 (0, 0)), young_m, old_m], muns [w_m], ?_, ?_, ?_, ?_⟩
      rotate_left
      · exact Seps.grp (ls := [[mone jy (.cells [Value.slice young_A (young.length) (young_c)].toArray 34 (0, 0)), mone jo (.cells [Value.slice old_A (old.length) (old_c)].toArray 34 (0, 0)), young_m, old_m], [w_m]]) hS_
      · exact (by have h_ := all2_ok (Seps.self hS_ (List.Sublist.cons_cons _ (List.Sublist.cons_cons _ (List.Sublist.cons_cons _ (List.Sublist.cons_cons _ (List.Sublist.cons _ List.Sublist.slnil)))))) (OwnL.ow h_young rfl) (OwnL.ow h_old rfl) bd bd; have e_ : mrg young old = sList l_ r_ := (by rw [hjy, hjo, e0]; rfl); rw [e_] at h_; exact h_)
      · rw [hm0_]; exact (Ow.up h_w ((Seps.self hS_ (List.Sublist.cons _ (List.Sublist.cons _ (List.Sublist.cons _ (List.Sublist.cons _ (List.Sublist.cons_cons _ List.Sublist.slnil)))))).1 _ (.head _)))
      all_goals (first | rfl | (simp [*]; done))
    · -- FA
      intro hJ2
      obtain ⟨q25_E, q25_A2, q25_c2, q25_n0, q25_n1, q25_n2, _, q25_S, q25_0, q25_1, q25_2⟩ := openP_storeStore (x0 := (gt_, T_)) (x1 := (gu_, ((gd_, D_), br_, l_))) (x2 := r_) w1_0
      dsimp only at q25_0
      dsimp only at q25_1
      have q25_r2 := q25_2.rm
      refine VC.inv _ (fun _ h => h.parts (i := 1) rfl q25_S [129, 126, 127, 128]) ?_
      refine VC.regE [(129, mone g0 (.cells [Value.pointer (some ⟨gt_, 0, none⟩), Value.pointer (some ⟨gu_, 0, none⟩), Value.slice q25_A2 (r_.length) (q25_c2)].toArray q25_E (0, 0))), (127, q25_n1), (128, q25_n2), (0, mout (wm W) (m0))] 12 follows (by kernel_rfl) (fun _ h => h.sub [129, 127, 128, 0]) ?_
      refine VE.y 0 rfl rfl (.inl rfl) (by kernel_rfl) (.mv rfl) ?_
      refine VE.y 4 rfl rfl (.inl rfl) (by kernel_rfl) (.mv rfl) ?_
      refine VE.y 5 rfl rfl (.inl rfl) (by kernel_rfl) (.nilp rfl) ?_
      refine VE.y 6 rfl rfl (.inl rfl) (by kernel_rfl) (.fa rfl tst40 rfl) ?_
      refine VE.y 7 rfl rfl (.inl rfl) (by kernel_rfl) (.ld1 129 rfl tk37 rfl (cellsAt_one rfl rfl)) ?_
      refine VE.tree [1, 10, 11] (by kernel_rfl) ⟨?_, ?_, ?_, trivial⟩
      · -- FA0
        refine VI.callN 130 rfl rfl (.inl rfl) fnOk95 rfl (fun _ h => Inv.sbK [129, 127, 128, 0] h) (fun W hW => sOlderR_ok W (show Rd (.ptr TstoreStore) _ _ (g0, ((gt_, T_), (gu_, ((gd_, D_), br_, l_)), r_)) from ⟨rfl, _, _, (hW.at (i := 129) rfl) _ _ (mone_self _ _), (mk_storeStore (m := wm W) (gt_, T_) (gu_, ((gd_, D_), br_, l_)) r_ (Ow.rd q25_0 (hW.at (i := 126) rfl)) (Ow.rd q25_1 (hW.at (i := 127) rfl)) (Ow.rd q25_2 (hW.at (i := 128) rfl)))⟩) (by assumption)) (fun v30 m30 hv30 => ?_)
        try dsimp only at hv30
        obtain ⟨s30_0, rfl, f30_0⟩ := hv30
        have hfa31 := (sOld_len (show okU l_ by assumption))
        refine VE.tree [2, 10, 11] (by kernel_rfl) ⟨?_, ?_, ?_, trivial⟩
        · -- FA00
          refine VI.call 130 rfl rfl (.inl rfl) fnOk44 rfl rfl (fun _ _ h => Inv.sbK [129, 127, 128, 0] h) (fun W hW => tAll_ok W (hW.at (i := 130) rfl) f30_0 bd) (fun v32 m32 hv32 => ?_)
          obtain ⟨s32_0, p32_0, p32_1, rfl, hS32, f32_0, w32_0⟩ := hv32
          refine VE.inv _ (fun _ h => h.parts (i := 130) rfl hS32 [133, 134]) ?_
          have hfa35 := tL_len (d := (sOld l_))
          refine VE.inv [(133, p32_0), (129, mone g0 (.cells [Value.pointer (some ⟨gt_, 0, none⟩), Value.pointer (some ⟨gu_, 0, none⟩), Value.slice q25_A2 (r_.length) (q25_c2)].toArray q25_E (0, 0))), (126, q25_n0), (127, q25_n1), (128, q25_n2), (0, mout (wm W) (m0))] (fun _ h => Inv.sbK [133, 129, 126, 127, 128, 0] h) ?_
          refine VE.tree [3, 10, 11] (by kernel_rfl) ⟨?_, ?_, ?_, trivial⟩
          · -- FA000
            refine VI.call 133 rfl rfl (.inl rfl) fnOk43 rfl rfl (fun _ _ h => Inv.sbK [129, 127, 128, 0] h) (fun W hW => coll_ok W (hW.at (i := 133) rfl) f32_0 bd) (fun v36 m36 hv36 => ?_)
            obtain ⟨s36_0, rfl, f36_0⟩ := hv36
            obtain ⟨A36_0, c36_0, eq36_0, l36_0, k36_0⟩ := f36_0.slice
            subst eq36_0
            simp only [maxLen] at k36_0
            refine VE.tree [8, 10, 11] (by kernel_rfl) ⟨?_, ?_, ?_, trivial⟩
            · -- FA0000
              refine VI.call 126 rfl rfl (.inl rfl) fnOk44 rfl rfl (fun _ _ h => Inv.sbK [129, 127, 128, 0] h) (fun W hW => tAll_ok W (hW.at (i := 126) rfl) q25_0 bd) (fun v37 m37 hv37 => ?_)
              obtain ⟨s37_0, p37_0, p37_1, rfl, hS37, f37_0, w37_0⟩ := hv37
              refine VE.inv _ (fun _ h => h.parts (i := 126) rfl hS37 [138, 139]) ?_
              have hfa40 := tL_len (d := T_)
              refine VE.tree [9, 10, 11] (by kernel_rfl) ⟨?_, ?_, ?_, trivial⟩
              · -- FA00000
                refine VI.call 138 rfl rfl (.inl rfl) fnOk43 rfl rfl (fun _ _ h => Inv.sbK [129, 127, 128, 0] h) (fun W hW => coll_ok W (hW.at (i := 138) rfl) f37_0 bd) (fun v41 m41 hv41 => ?_)
                obtain ⟨s41_0, rfl, f41_0⟩ := hv41
                obtain ⟨A41_0, c41_0, eq41_0, l41_0, k41_0⟩ := f41_0.slice
                subst eq41_0
                simp only [maxLen] at k41_0
                refine VE.tree [10, 11] (by kernel_rfl) ⟨?_, ?_, trivial⟩
                · -- FA000000
                  refine VI.alloc 143 rfl rfl tz34 (fun _ _ h => Inv.sbK [129, 127, 128, 0] h) (fun g42 => ?_)
                  refine VE.tree [11] (by kernel_rfl) ⟨?_, trivial⟩
                  refine VI.alloc 145 rfl rfl tz34 (fun _ _ h => Inv.sbK [129, 127, 128, 0] h) (fun g44 => ?_)
                  refine VE.nil (by kernel_rfl) rfl ?_ rfl
                  refine VO.store (k := 1) (c' := [Value.slice A36_0 ((tL (sOld l_)).length) (c36_0)]) 143 rfl rfl (.inr ⟨tk34, rfl⟩) rfl rfl rfl rfl rfl ?_
                  refine VO.store (k := 1) (c' := [Value.slice A41_0 ((tL T_).length) (c41_0)]) 145 rfl rfl (.inr ⟨tk34, rfl⟩) rfl rfl rfl rfl rfl ?_
                  refine VO.clsP 146 [129, 139, 127, 128] rfl (fun hg46 => (mkP_storeStore (gt_, T_) (gu_, ((gd_, D_), br_, l_)) r_ hg46 w37_0 q25_1 q25_2)) (fun mc46 ho46 => ?_)
                  refine VO.kp [146, 145, 143, 138, 133, 0] [(146, mc46), (145, mone g44 (.cells [Value.slice A41_0 ((tL T_).length) (c41_0)].toArray 34 (0, 0))), (143, mone g42 (.cells [Value.slice A36_0 ((tL (sOld l_)).length) (c36_0)].toArray 34 (0, 0))), (138, m41), (133, m36), (0, mout (wm W) (m0))] ?_
                  refine VO.k5 0 2 3 4 6 ?_
                  exact outN (hJ2 ⟨g42, g44, (tL (sOld l_)), A36_0, c36_0, m36, (tL T_), A41_0, c41_0, m41, mc46⟩ _ _ ⟨by rfl, by rfl, (Ow.ownl f36_0 rfl mnil), (Ow.ownl f41_0 rfl mnil), ho46⟩ ⟨⟨rfl, rfl, rfl, rfl, trivial⟩, fun _ h => Inv.sub (Inv.num (Inv.num (Inv.num (Inv.num (Inv.num h 133 111 rfl) 138 116 rfl) 146 124 rfl) 145 123 rfl) 143 121 rfl) [124, 123, 121, 116, 111, 0]⟩)
                · -- FA000001
                  refine VI.alloc 148 rfl rfl tz34 (fun _ _ h => Inv.sbK [129, 127, 128, 0] h) (fun g47 => ?_)
                  refine VE.tree [10] (by kernel_rfl) ⟨?_, trivial⟩
                  refine VI.alloc 150 rfl rfl tz34 (fun _ _ h => Inv.sbK [129, 127, 128, 0] h) (fun g49 => ?_)
                  refine VE.nil (by kernel_rfl) rfl ?_ rfl
                  refine VO.store (k := 1) (c' := [Value.slice A36_0 ((tL (sOld l_)).length) (c36_0)]) 150 rfl rfl (.inr ⟨tk34, rfl⟩) rfl rfl rfl rfl rfl ?_
                  refine VO.store (k := 1) (c' := [Value.slice A41_0 ((tL T_).length) (c41_0)]) 148 rfl rfl (.inr ⟨tk34, rfl⟩) rfl rfl rfl rfl rfl ?_
                  refine VO.clsP 151 [129, 139, 127, 128] rfl (fun hg51 => (mkP_storeStore (gt_, T_) (gu_, ((gd_, D_), br_, l_)) r_ hg51 w37_0 q25_1 q25_2)) (fun mc51 ho51 => ?_)
                  refine VO.kp [151, 150, 148, 138, 133, 0] [(151, mc51), (150, mone g49 (.cells [Value.slice A36_0 ((tL (sOld l_)).length) (c36_0)].toArray 34 (0, 0))), (148, mone g47 (.cells [Value.slice A41_0 ((tL T_).length) (c41_0)].toArray 34 (0, 0))), (138, m41), (133, m36), (0, mout (wm W) (m0))] ?_
                  refine VO.k5 0 2 3 4 6 ?_
                  exact outN (hJ2 ⟨g49, g47, (tL (sOld l_)), A36_0, c36_0, m36, (tL T_), A41_0, c41_0, m41, mc51⟩ _ _ ⟨by rfl, by rfl, (Ow.ownl f36_0 rfl mnil), (Ow.ownl f41_0 rfl mnil), ho51⟩ ⟨⟨rfl, rfl, rfl, rfl, trivial⟩, fun _ h => Inv.sub (Inv.num (Inv.num (Inv.num (Inv.num (Inv.num h 133 111 rfl) 138 116 rfl) 151 124 rfl) 148 123 rfl) 150 121 rfl) [124, 123, 121, 116, 111, 0]⟩)
              · -- FA00001
                refine VI.alloc 153 rfl rfl tz34 (fun _ _ h => Inv.sbK [129, 127, 128, 0] h) (fun g52 => ?_)
                refine VE.tree [9, 11] (by kernel_rfl) ⟨?_, ?_, trivial⟩
                · -- FA000010
                  refine VI.call 138 rfl rfl (.inl rfl) fnOk43 rfl rfl (fun _ _ h => Inv.sbK [129, 127, 128, 0] h) (fun W hW => coll_ok W (hW.at (i := 138) rfl) f37_0 bd) (fun v54 m54 hv54 => ?_)
                  obtain ⟨s54_0, rfl, f54_0⟩ := hv54
                  obtain ⟨A54_0, c54_0, eq54_0, l54_0, k54_0⟩ := f54_0.slice
                  subst eq54_0
                  simp only [maxLen] at k54_0
                  refine VE.tree [11] (by kernel_rfl) ⟨?_, trivial⟩
                  refine VI.alloc 156 rfl rfl tz34 (fun _ _ h => Inv.sbK [129, 127, 128, 0] h) (fun g55 => ?_)
                  refine VE.nil (by kernel_rfl) rfl ?_ rfl
                  refine VO.store (k := 1) (c' := [Value.slice A36_0 ((tL (sOld l_)).length) (c36_0)]) 153 rfl rfl (.inr ⟨tk34, rfl⟩) rfl rfl rfl rfl rfl ?_
                  refine VO.store (k := 1) (c' := [Value.slice A54_0 ((tL T_).length) (c54_0)]) 156 rfl rfl (.inr ⟨tk34, rfl⟩) rfl rfl rfl rfl rfl ?_
                  refine VO.clsP 157 [129, 139, 127, 128] rfl (fun hg57 => (mkP_storeStore (gt_, T_) (gu_, ((gd_, D_), br_, l_)) r_ hg57 w37_0 q25_1 q25_2)) (fun mc57 ho57 => ?_)
                  refine VO.kp [157, 156, 138, 153, 133, 0] [(157, mc57), (156, mone g55 (.cells [Value.slice A54_0 ((tL T_).length) (c54_0)].toArray 34 (0, 0))), (138, m54), (153, mone g52 (.cells [Value.slice A36_0 ((tL (sOld l_)).length) (c36_0)].toArray 34 (0, 0))), (133, m36), (0, mout (wm W) (m0))] ?_
                  refine VO.k5 0 2 3 4 6 ?_
                  exact outN (hJ2 ⟨g52, g55, (tL (sOld l_)), A36_0, c36_0, m36, (tL T_), A54_0, c54_0, m54, mc57⟩ _ _ ⟨by rfl, by rfl, (Ow.ownl f36_0 rfl mnil), (Ow.ownl f54_0 rfl mnil), ho57⟩ ⟨⟨rfl, rfl, rfl, rfl, trivial⟩, fun _ h => Inv.sub (Inv.num (Inv.num (Inv.num (Inv.num (Inv.num h 133 111 rfl) 138 116 rfl) 157 124 rfl) 156 123 rfl) 153 121 rfl) [124, 123, 121, 116, 111, 0]⟩)
                · -- FA000011
                  refine VI.alloc 159 rfl rfl tz34 (fun _ _ h => Inv.sbK [129, 127, 128, 0] h) (fun g58 => ?_)
                  refine VE.tree [9] (by kernel_rfl) ⟨?_, trivial⟩
                  refine VI.call 138 rfl rfl (.inl rfl) fnOk43 rfl rfl (fun _ _ h => Inv.sbK [129, 127, 128, 0] h) (fun W hW => coll_ok W (hW.at (i := 138) rfl) f37_0 bd) (fun v60 m60 hv60 => ?_)
                  obtain ⟨s60_0, rfl, f60_0⟩ := hv60
                  obtain ⟨A60_0, c60_0, eq60_0, l60_0, k60_0⟩ := f60_0.slice
                  subst eq60_0
                  simp only [maxLen] at k60_0
                  refine VE.nil (by kernel_rfl) rfl ?_ rfl
                  refine VO.store (k := 1) (c' := [Value.slice A36_0 ((tL (sOld l_)).length) (c36_0)]) 153 rfl rfl (.inr ⟨tk34, rfl⟩) rfl rfl rfl rfl rfl ?_
                  refine VO.store (k := 1) (c' := [Value.slice A60_0 ((tL T_).length) (c60_0)]) 159 rfl rfl (.inr ⟨tk34, rfl⟩) rfl rfl rfl rfl rfl ?_
                  refine VO.clsP 161 [129, 139, 127, 128] rfl (fun hg61 => (mkP_storeStore (gt_, T_) (gu_, ((gd_, D_), br_, l_)) r_ hg61 w37_0 q25_1 q25_2)) (fun mc61 ho61 => ?_)
                  refine VO.kp [161, 138, 159, 153, 133, 0] [(161, mc61), (138, m60), (159, mone g58 (.cells [Value.slice A60_0 ((tL T_).length) (c60_0)].toArray 34 (0, 0))), (153, mone g52 (.cells [Value.slice A36_0 ((tL (sOld l_)).length) (c36_0)].toArray 34 (0, 0))), (133, m36), (0, mout (wm W) (m0))] ?_
                  refine VO.k5 0 2 3 4 6 ?_
                  exact outN (hJ2 ⟨g52, g58, (tL (sOld l_)), A36_0, c36_0, m36, (tL T_), A60_0, c60_0, m60, mc61⟩ _ _ ⟨by rfl, by rfl, (Ow.ownl f36_0 rfl mnil), (Ow.ownl f60_0 rfl mnil), ho61⟩ ⟨⟨rfl, rfl, rfl, rfl, trivial⟩, fun _ h => Inv.sub (Inv.num (Inv.num (Inv.num (Inv.num (Inv.num h 133 111 rfl) 138 116 rfl) 161 124 rfl) 159 123 rfl) 153 121 rfl) [124, 123, 121, 116, 111, 0]⟩)
              · -- FA00002
                refine VI.alloc 163 rfl rfl tz34 (fun _ _ h => Inv.sbK [129, 127, 128, 0] h) (fun g62 => ?_)
                refine VE.tree [9, 10] (by kernel_rfl) ⟨?_, ?_, trivial⟩
                · -- FA000020
                  refine VI.call 138 rfl rfl (.inl rfl) fnOk43 rfl rfl (fun _ _ h => Inv.sbK [129, 127, 128, 0] h) (fun W hW => coll_ok W (hW.at (i := 138) rfl) f37_0 bd) (fun v64 m64 hv64 => ?_)
                  obtain ⟨s64_0, rfl, f64_0⟩ := hv64
                  obtain ⟨A64_0, c64_0, eq64_0, l64_0, k64_0⟩ := f64_0.slice
                  subst eq64_0
                  simp only [maxLen] at k64_0
                  refine VE.tree [10] (by kernel_rfl) ⟨?_, trivial⟩
                  refine VI.alloc 166 rfl rfl tz34 (fun _ _ h => Inv.sbK [129, 127, 128, 0] h) (fun g65 => ?_)
                  refine VE.nil (by kernel_rfl) rfl ?_ rfl
                  refine VO.store (k := 1) (c' := [Value.slice A36_0 ((tL (sOld l_)).length) (c36_0)]) 166 rfl rfl (.inr ⟨tk34, rfl⟩) rfl rfl rfl rfl rfl ?_
                  refine VO.store (k := 1) (c' := [Value.slice A64_0 ((tL T_).length) (c64_0)]) 163 rfl rfl (.inr ⟨tk34, rfl⟩) rfl rfl rfl rfl rfl ?_
                  refine VO.clsP 167 [129, 139, 127, 128] rfl (fun hg67 => (mkP_storeStore (gt_, T_) (gu_, ((gd_, D_), br_, l_)) r_ hg67 w37_0 q25_1 q25_2)) (fun mc67 ho67 => ?_)
                  refine VO.kp [167, 166, 138, 163, 133, 0] [(167, mc67), (166, mone g65 (.cells [Value.slice A36_0 ((tL (sOld l_)).length) (c36_0)].toArray 34 (0, 0))), (138, m64), (163, mone g62 (.cells [Value.slice A64_0 ((tL T_).length) (c64_0)].toArray 34 (0, 0))), (133, m36), (0, mout (wm W) (m0))] ?_
                  refine VO.k5 0 2 3 4 6 ?_
                  exact outN (hJ2 ⟨g65, g62, (tL (sOld l_)), A36_0, c36_0, m36, (tL T_), A64_0, c64_0, m64, mc67⟩ _ _ ⟨by rfl, by rfl, (Ow.ownl f36_0 rfl mnil), (Ow.ownl f64_0 rfl mnil), ho67⟩ ⟨⟨rfl, rfl, rfl, rfl, trivial⟩, fun _ h => Inv.sub (Inv.num (Inv.num (Inv.num (Inv.num (Inv.num h 133 111 rfl) 138 116 rfl) 167 124 rfl) 163 123 rfl) 166 121 rfl) [124, 123, 121, 116, 111, 0]⟩)
                · -- FA000021
                  refine VI.alloc 169 rfl rfl tz34 (fun _ _ h => Inv.sbK [129, 127, 128, 0] h) (fun g68 => ?_)
                  refine VE.tree [9] (by kernel_rfl) ⟨?_, trivial⟩
                  refine VI.call 138 rfl rfl (.inl rfl) fnOk43 rfl rfl (fun _ _ h => Inv.sbK [129, 127, 128, 0] h) (fun W hW => coll_ok W (hW.at (i := 138) rfl) f37_0 bd) (fun v70 m70 hv70 => ?_)
                  obtain ⟨s70_0, rfl, f70_0⟩ := hv70
                  obtain ⟨A70_0, c70_0, eq70_0, l70_0, k70_0⟩ := f70_0.slice
                  subst eq70_0
                  simp only [maxLen] at k70_0
                  refine VE.nil (by kernel_rfl) rfl ?_ rfl
                  refine VO.store (k := 1) (c' := [Value.slice A36_0 ((tL (sOld l_)).length) (c36_0)]) 169 rfl rfl (.inr ⟨tk34, rfl⟩) rfl rfl rfl rfl rfl ?_
                  refine VO.store (k := 1) (c' := [Value.slice A70_0 ((tL T_).length) (c70_0)]) 163 rfl rfl (.inr ⟨tk34, rfl⟩) rfl rfl rfl rfl rfl ?_
                  refine VO.clsP 171 [129, 139, 127, 128] rfl (fun hg71 => (mkP_storeStore (gt_, T_) (gu_, ((gd_, D_), br_, l_)) r_ hg71 w37_0 q25_1 q25_2)) (fun mc71 ho71 => ?_)
                  refine VO.kp [171, 138, 169, 163, 133, 0] [(171, mc71), (138, m70), (169, mone g68 (.cells [Value.slice A36_0 ((tL (sOld l_)).length) (c36_0)].toArray 34 (0, 0))), (163, mone g62 (.cells [Value.slice A70_0 ((tL T_).length) (c70_0)].toArray 34 (0, 0))), (133, m36), (0, mout (wm W) (m0))] ?_
                  refine VO.k5 0 2 3 4 6 ?_
                  exact outN (hJ2 ⟨g68, g62, (tL (sOld l_)), A36_0, c36_0, m36, (tL T_), A70_0, c70_0, m70, mc71⟩ _ _ ⟨by rfl, by rfl, (Ow.ownl f36_0 rfl mnil), (Ow.ownl f70_0 rfl mnil), ho71⟩ ⟨⟨rfl, rfl, rfl, rfl, trivial⟩, fun _ h => Inv.sub (Inv.num (Inv.num (Inv.num (Inv.num (Inv.num h 133 111 rfl) 138 116 rfl) 171 124 rfl) 163 123 rfl) 169 121 rfl) [124, 123, 121, 116, 111, 0]⟩)
            · -- FA0001
              refine VI.alloc 173 rfl rfl tz34 (fun _ _ h => Inv.sbK [129, 127, 128, 0] h) (fun g72 => ?_)
              refine VE.tree [8, 11] (by kernel_rfl) ⟨?_, ?_, trivial⟩
              · -- FA00010
                refine VI.call 126 rfl rfl (.inl rfl) fnOk44 rfl rfl (fun _ _ h => Inv.sbK [129, 127, 128, 0] h) (fun W hW => tAll_ok W (hW.at (i := 126) rfl) q25_0 bd) (fun v74 m74 hv74 => ?_)
                obtain ⟨s74_0, p74_0, p74_1, rfl, hS74, f74_0, w74_0⟩ := hv74
                refine VE.inv _ (fun _ h => h.parts (i := 126) rfl hS74 [175, 176]) ?_
                have hfa77 := tL_len (d := T_)
                refine VE.tree [9, 11] (by kernel_rfl) ⟨?_, ?_, trivial⟩
                · -- FA000100
                  refine VI.call 175 rfl rfl (.inl rfl) fnOk43 rfl rfl (fun _ _ h => Inv.sbK [129, 127, 128, 0] h) (fun W hW => coll_ok W (hW.at (i := 175) rfl) f74_0 bd) (fun v78 m78 hv78 => ?_)
                  obtain ⟨s78_0, rfl, f78_0⟩ := hv78
                  obtain ⟨A78_0, c78_0, eq78_0, l78_0, k78_0⟩ := f78_0.slice
                  subst eq78_0
                  simp only [maxLen] at k78_0
                  refine VE.tree [11] (by kernel_rfl) ⟨?_, trivial⟩
                  refine VI.alloc 180 rfl rfl tz34 (fun _ _ h => Inv.sbK [129, 127, 128, 0] h) (fun g79 => ?_)
                  refine VE.nil (by kernel_rfl) rfl ?_ rfl
                  refine VO.store (k := 1) (c' := [Value.slice A36_0 ((tL (sOld l_)).length) (c36_0)]) 173 rfl rfl (.inr ⟨tk34, rfl⟩) rfl rfl rfl rfl rfl ?_
                  refine VO.store (k := 1) (c' := [Value.slice A78_0 ((tL T_).length) (c78_0)]) 180 rfl rfl (.inr ⟨tk34, rfl⟩) rfl rfl rfl rfl rfl ?_
                  refine VO.clsP 181 [129, 176, 127, 128] rfl (fun hg81 => (mkP_storeStore (gt_, T_) (gu_, ((gd_, D_), br_, l_)) r_ hg81 w74_0 q25_1 q25_2)) (fun mc81 ho81 => ?_)
                  refine VO.kp [181, 180, 175, 173, 133, 0] [(181, mc81), (180, mone g79 (.cells [Value.slice A78_0 ((tL T_).length) (c78_0)].toArray 34 (0, 0))), (175, m78), (173, mone g72 (.cells [Value.slice A36_0 ((tL (sOld l_)).length) (c36_0)].toArray 34 (0, 0))), (133, m36), (0, mout (wm W) (m0))] ?_
                  refine VO.k5 0 2 3 4 6 ?_
                  exact outN (hJ2 ⟨g72, g79, (tL (sOld l_)), A36_0, c36_0, m36, (tL T_), A78_0, c78_0, m78, mc81⟩ _ _ ⟨by rfl, by rfl, (Ow.ownl f36_0 rfl mnil), (Ow.ownl f78_0 rfl mnil), ho81⟩ ⟨⟨rfl, rfl, rfl, rfl, trivial⟩, fun _ h => Inv.sub (Inv.num (Inv.num (Inv.num (Inv.num (Inv.num h 133 111 rfl) 175 116 rfl) 181 124 rfl) 180 123 rfl) 173 121 rfl) [124, 123, 121, 116, 111, 0]⟩)
                · -- FA000101
                  refine VI.alloc 183 rfl rfl tz34 (fun _ _ h => Inv.sbK [129, 127, 128, 0] h) (fun g82 => ?_)
                  refine VE.tree [9] (by kernel_rfl) ⟨?_, trivial⟩
                  refine VI.call 175 rfl rfl (.inl rfl) fnOk43 rfl rfl (fun _ _ h => Inv.sbK [129, 127, 128, 0] h) (fun W hW => coll_ok W (hW.at (i := 175) rfl) f74_0 bd) (fun v84 m84 hv84 => ?_)
                  obtain ⟨s84_0, rfl, f84_0⟩ := hv84
                  obtain ⟨A84_0, c84_0, eq84_0, l84_0, k84_0⟩ := f84_0.slice
                  subst eq84_0
                  simp only [maxLen] at k84_0
                  refine VE.nil (by kernel_rfl) rfl ?_ rfl
                  refine VO.store (k := 1) (c' := [Value.slice A36_0 ((tL (sOld l_)).length) (c36_0)]) 173 rfl rfl (.inr ⟨tk34, rfl⟩) rfl rfl rfl rfl rfl ?_
                  refine VO.store (k := 1) (c' := [Value.slice A84_0 ((tL T_).length) (c84_0)]) 183 rfl rfl (.inr ⟨tk34, rfl⟩) rfl rfl rfl rfl rfl ?_
                  refine VO.clsP 185 [129, 176, 127, 128] rfl (fun hg85 => (mkP_storeStore (gt_, T_) (gu_, ((gd_, D_), br_, l_)) r_ hg85 w74_0 q25_1 q25_2)) (fun mc85 ho85 => ?_)
                  refine VO.kp [185, 175, 183, 173, 133, 0] [(185, mc85), (175, m84), (183, mone g82 (.cells [Value.slice A84_0 ((tL T_).length) (c84_0)].toArray 34 (0, 0))), (173, mone g72 (.cells [Value.slice A36_0 ((tL (sOld l_)).length) (c36_0)].toArray 34 (0, 0))), (133, m36), (0, mout (wm W) (m0))] ?_
                  refine VO.k5 0 2 3 4 6 ?_
                  exact outN (hJ2 ⟨g72, g82, (tL (sOld l_)), A36_0, c36_0, m36, (tL T_), A84_0, c84_0, m84, mc85⟩ _ _ ⟨by rfl, by rfl, (Ow.ownl f36_0 rfl mnil), (Ow.ownl f84_0 rfl mnil), ho85⟩ ⟨⟨rfl, rfl, rfl, rfl, trivial⟩, fun _ h => Inv.sub (Inv.num (Inv.num (Inv.num (Inv.num (Inv.num h 133 111 rfl) 175 116 rfl) 185 124 rfl) 183 123 rfl) 173 121 rfl) [124, 123, 121, 116, 111, 0]⟩)
              · -- FA00011
                refine VI.alloc 187 rfl rfl tz34 (fun _ _ h => Inv.sbK [129, 127, 128, 0] h) (fun g86 => ?_)
                refine VE.tree [8] (by kernel_rfl) ⟨?_, trivial⟩
                refine VI.call 126 rfl rfl (.inl rfl) fnOk44 rfl rfl (fun _ _ h => Inv.sbK [129, 127, 128, 0] h) (fun W hW => tAll_ok W (hW.at (i := 126) rfl) q25_0 bd) (fun v88 m88 hv88 => ?_)
                obtain ⟨s88_0, p88_0, p88_1, rfl, hS88, f88_0, w88_0⟩ := hv88
                refine VE.inv _ (fun _ h => h.parts (i := 126) rfl hS88 [189, 190]) ?_
                have hfa91 := tL_len (d := T_)
                refine VE.tree [9] (by kernel_rfl) ⟨?_, trivial⟩
                refine VI.call 189 rfl rfl (.inl rfl) fnOk43 rfl rfl (fun _ _ h => Inv.sbK [129, 127, 128, 0] h) (fun W hW => coll_ok W (hW.at (i := 189) rfl) f88_0 bd) (fun v92 m92 hv92 => ?_)
                obtain ⟨s92_0, rfl, f92_0⟩ := hv92
                obtain ⟨A92_0, c92_0, eq92_0, l92_0, k92_0⟩ := f92_0.slice
                subst eq92_0
                simp only [maxLen] at k92_0
                refine VE.nil (by kernel_rfl) rfl ?_ rfl
                refine VO.store (k := 1) (c' := [Value.slice A36_0 ((tL (sOld l_)).length) (c36_0)]) 173 rfl rfl (.inr ⟨tk34, rfl⟩) rfl rfl rfl rfl rfl ?_
                refine VO.store (k := 1) (c' := [Value.slice A92_0 ((tL T_).length) (c92_0)]) 187 rfl rfl (.inr ⟨tk34, rfl⟩) rfl rfl rfl rfl rfl ?_
                refine VO.clsP 193 [129, 190, 127, 128] rfl (fun hg93 => (mkP_storeStore (gt_, T_) (gu_, ((gd_, D_), br_, l_)) r_ hg93 w88_0 q25_1 q25_2)) (fun mc93 ho93 => ?_)
                refine VO.kp [193, 189, 187, 173, 133, 0] [(193, mc93), (189, m92), (187, mone g86 (.cells [Value.slice A92_0 ((tL T_).length) (c92_0)].toArray 34 (0, 0))), (173, mone g72 (.cells [Value.slice A36_0 ((tL (sOld l_)).length) (c36_0)].toArray 34 (0, 0))), (133, m36), (0, mout (wm W) (m0))] ?_
                refine VO.k5 0 2 3 4 6 ?_
                exact outN (hJ2 ⟨g72, g86, (tL (sOld l_)), A36_0, c36_0, m36, (tL T_), A92_0, c92_0, m92, mc93⟩ _ _ ⟨by rfl, by rfl, (Ow.ownl f36_0 rfl mnil), (Ow.ownl f92_0 rfl mnil), ho93⟩ ⟨⟨rfl, rfl, rfl, rfl, trivial⟩, fun _ h => Inv.sub (Inv.num (Inv.num (Inv.num (Inv.num (Inv.num h 133 111 rfl) 189 116 rfl) 193 124 rfl) 187 123 rfl) 173 121 rfl) [124, 123, 121, 116, 111, 0]⟩)
            · -- FA0002
              refine VI.alloc 195 rfl rfl tz34 (fun _ _ h => Inv.sbK [129, 127, 128, 0] h) (fun g94 => ?_)
              refine VE.tree [8, 10] (by kernel_rfl) ⟨?_, ?_, trivial⟩
              · -- FA00020
                refine VI.call 126 rfl rfl (.inl rfl) fnOk44 rfl rfl (fun _ _ h => Inv.sbK [129, 127, 128, 0] h) (fun W hW => tAll_ok W (hW.at (i := 126) rfl) q25_0 bd) (fun v96 m96 hv96 => ?_)
                obtain ⟨s96_0, p96_0, p96_1, rfl, hS96, f96_0, w96_0⟩ := hv96
                refine VE.inv _ (fun _ h => h.parts (i := 126) rfl hS96 [197, 198]) ?_
                have hfa99 := tL_len (d := T_)
                refine VE.tree [9, 10] (by kernel_rfl) ⟨?_, ?_, trivial⟩
                · -- FA000200
                  refine VI.call 197 rfl rfl (.inl rfl) fnOk43 rfl rfl (fun _ _ h => Inv.sbK [129, 127, 128, 0] h) (fun W hW => coll_ok W (hW.at (i := 197) rfl) f96_0 bd) (fun v100 m100 hv100 => ?_)
                  obtain ⟨s100_0, rfl, f100_0⟩ := hv100
                  obtain ⟨A100_0, c100_0, eq100_0, l100_0, k100_0⟩ := f100_0.slice
                  subst eq100_0
                  simp only [maxLen] at k100_0
                  refine VE.tree [10] (by kernel_rfl) ⟨?_, trivial⟩
                  refine VI.alloc 202 rfl rfl tz34 (fun _ _ h => Inv.sbK [129, 127, 128, 0] h) (fun g101 => ?_)
                  refine VE.nil (by kernel_rfl) rfl ?_ rfl
                  refine VO.store (k := 1) (c' := [Value.slice A36_0 ((tL (sOld l_)).length) (c36_0)]) 202 rfl rfl (.inr ⟨tk34, rfl⟩) rfl rfl rfl rfl rfl ?_
                  refine VO.store (k := 1) (c' := [Value.slice A100_0 ((tL T_).length) (c100_0)]) 195 rfl rfl (.inr ⟨tk34, rfl⟩) rfl rfl rfl rfl rfl ?_
                  refine VO.clsP 203 [129, 198, 127, 128] rfl (fun hg103 => (mkP_storeStore (gt_, T_) (gu_, ((gd_, D_), br_, l_)) r_ hg103 w96_0 q25_1 q25_2)) (fun mc103 ho103 => ?_)
                  refine VO.kp [203, 202, 197, 195, 133, 0] [(203, mc103), (202, mone g101 (.cells [Value.slice A36_0 ((tL (sOld l_)).length) (c36_0)].toArray 34 (0, 0))), (197, m100), (195, mone g94 (.cells [Value.slice A100_0 ((tL T_).length) (c100_0)].toArray 34 (0, 0))), (133, m36), (0, mout (wm W) (m0))] ?_
                  refine VO.k5 0 2 3 4 6 ?_
                  exact outN (hJ2 ⟨g101, g94, (tL (sOld l_)), A36_0, c36_0, m36, (tL T_), A100_0, c100_0, m100, mc103⟩ _ _ ⟨by rfl, by rfl, (Ow.ownl f36_0 rfl mnil), (Ow.ownl f100_0 rfl mnil), ho103⟩ ⟨⟨rfl, rfl, rfl, rfl, trivial⟩, fun _ h => Inv.sub (Inv.num (Inv.num (Inv.num (Inv.num (Inv.num h 133 111 rfl) 197 116 rfl) 203 124 rfl) 195 123 rfl) 202 121 rfl) [124, 123, 121, 116, 111, 0]⟩)
                · -- FA000201
                  refine VI.alloc 205 rfl rfl tz34 (fun _ _ h => Inv.sbK [129, 127, 128, 0] h) (fun g104 => ?_)
                  refine VE.tree [9] (by kernel_rfl) ⟨?_, trivial⟩
                  refine VI.call 197 rfl rfl (.inl rfl) fnOk43 rfl rfl (fun _ _ h => Inv.sbK [129, 127, 128, 0] h) (fun W hW => coll_ok W (hW.at (i := 197) rfl) f96_0 bd) (fun v106 m106 hv106 => ?_)
                  obtain ⟨s106_0, rfl, f106_0⟩ := hv106
                  obtain ⟨A106_0, c106_0, eq106_0, l106_0, k106_0⟩ := f106_0.slice
                  subst eq106_0
                  simp only [maxLen] at k106_0
                  refine VE.nil (by kernel_rfl) rfl ?_ rfl
                  refine VO.store (k := 1) (c' := [Value.slice A36_0 ((tL (sOld l_)).length) (c36_0)]) 205 rfl rfl (.inr ⟨tk34, rfl⟩) rfl rfl rfl rfl rfl ?_
                  refine VO.store (k := 1) (c' := [Value.slice A106_0 ((tL T_).length) (c106_0)]) 195 rfl rfl (.inr ⟨tk34, rfl⟩) rfl rfl rfl rfl rfl ?_
                  refine VO.clsP 207 [129, 198, 127, 128] rfl (fun hg107 => (mkP_storeStore (gt_, T_) (gu_, ((gd_, D_), br_, l_)) r_ hg107 w96_0 q25_1 q25_2)) (fun mc107 ho107 => ?_)
                  refine VO.kp [207, 197, 205, 195, 133, 0] [(207, mc107), (197, m106), (205, mone g104 (.cells [Value.slice A36_0 ((tL (sOld l_)).length) (c36_0)].toArray 34 (0, 0))), (195, mone g94 (.cells [Value.slice A106_0 ((tL T_).length) (c106_0)].toArray 34 (0, 0))), (133, m36), (0, mout (wm W) (m0))] ?_
                  refine VO.k5 0 2 3 4 6 ?_
                  exact outN (hJ2 ⟨g104, g94, (tL (sOld l_)), A36_0, c36_0, m36, (tL T_), A106_0, c106_0, m106, mc107⟩ _ _ ⟨by rfl, by rfl, (Ow.ownl f36_0 rfl mnil), (Ow.ownl f106_0 rfl mnil), ho107⟩ ⟨⟨rfl, rfl, rfl, rfl, trivial⟩, fun _ h => Inv.sub (Inv.num (Inv.num (Inv.num (Inv.num (Inv.num h 133 111 rfl) 197 116 rfl) 207 124 rfl) 195 123 rfl) 205 121 rfl) [124, 123, 121, 116, 111, 0]⟩)
              · -- FA00021
                refine VI.alloc 209 rfl rfl tz34 (fun _ _ h => Inv.sbK [129, 127, 128, 0] h) (fun g108 => ?_)
                refine VE.tree [8] (by kernel_rfl) ⟨?_, trivial⟩
                refine VI.call 126 rfl rfl (.inl rfl) fnOk44 rfl rfl (fun _ _ h => Inv.sbK [129, 127, 128, 0] h) (fun W hW => tAll_ok W (hW.at (i := 126) rfl) q25_0 bd) (fun v110 m110 hv110 => ?_)
                obtain ⟨s110_0, p110_0, p110_1, rfl, hS110, f110_0, w110_0⟩ := hv110
                refine VE.inv _ (fun _ h => h.parts (i := 126) rfl hS110 [211, 212]) ?_
                have hfa113 := tL_len (d := T_)
                refine VE.tree [9] (by kernel_rfl) ⟨?_, trivial⟩
                refine VI.call 211 rfl rfl (.inl rfl) fnOk43 rfl rfl (fun _ _ h => Inv.sbK [129, 127, 128, 0] h) (fun W hW => coll_ok W (hW.at (i := 211) rfl) f110_0 bd) (fun v114 m114 hv114 => ?_)
                obtain ⟨s114_0, rfl, f114_0⟩ := hv114
                obtain ⟨A114_0, c114_0, eq114_0, l114_0, k114_0⟩ := f114_0.slice
                subst eq114_0
                simp only [maxLen] at k114_0
                refine VE.nil (by kernel_rfl) rfl ?_ rfl
                refine VO.store (k := 1) (c' := [Value.slice A36_0 ((tL (sOld l_)).length) (c36_0)]) 209 rfl rfl (.inr ⟨tk34, rfl⟩) rfl rfl rfl rfl rfl ?_
                refine VO.store (k := 1) (c' := [Value.slice A114_0 ((tL T_).length) (c114_0)]) 195 rfl rfl (.inr ⟨tk34, rfl⟩) rfl rfl rfl rfl rfl ?_
                refine VO.clsP 215 [129, 212, 127, 128] rfl (fun hg115 => (mkP_storeStore (gt_, T_) (gu_, ((gd_, D_), br_, l_)) r_ hg115 w110_0 q25_1 q25_2)) (fun mc115 ho115 => ?_)
                refine VO.kp [215, 211, 209, 195, 133, 0] [(215, mc115), (211, m114), (209, mone g108 (.cells [Value.slice A36_0 ((tL (sOld l_)).length) (c36_0)].toArray 34 (0, 0))), (195, mone g94 (.cells [Value.slice A114_0 ((tL T_).length) (c114_0)].toArray 34 (0, 0))), (133, m36), (0, mout (wm W) (m0))] ?_
                refine VO.k5 0 2 3 4 6 ?_
                exact outN (hJ2 ⟨g108, g94, (tL (sOld l_)), A36_0, c36_0, m36, (tL T_), A114_0, c114_0, m114, mc115⟩ _ _ ⟨by rfl, by rfl, (Ow.ownl f36_0 rfl mnil), (Ow.ownl f114_0 rfl mnil), ho115⟩ ⟨⟨rfl, rfl, rfl, rfl, trivial⟩, fun _ h => Inv.sub (Inv.num (Inv.num (Inv.num (Inv.num (Inv.num h 133 111 rfl) 211 116 rfl) 215 124 rfl) 195 123 rfl) 209 121 rfl) [124, 123, 121, 116, 111, 0]⟩)
          · -- FA001
            refine VI.alloc 217 rfl rfl tz34 (fun _ _ h => Inv.sbK [129, 127, 128, 0] h) (fun g116 => ?_)
            refine VE.tree [3, 11] (by kernel_rfl) ⟨?_, ?_, trivial⟩
            · -- FA0010
              refine VI.call 133 rfl rfl (.inl rfl) fnOk43 rfl rfl (fun _ _ h => Inv.sbK [129, 127, 128, 0] h) (fun W hW => coll_ok W (hW.at (i := 133) rfl) f32_0 bd) (fun v118 m118 hv118 => ?_)
              obtain ⟨s118_0, rfl, f118_0⟩ := hv118
              obtain ⟨A118_0, c118_0, eq118_0, l118_0, k118_0⟩ := f118_0.slice
              subst eq118_0
              simp only [maxLen] at k118_0
              refine VE.tree [8, 11] (by kernel_rfl) ⟨?_, ?_, trivial⟩
              · -- FA00100
                refine VI.call 126 rfl rfl (.inl rfl) fnOk44 rfl rfl (fun _ _ h => Inv.sbK [129, 127, 128, 0] h) (fun W hW => tAll_ok W (hW.at (i := 126) rfl) q25_0 bd) (fun v119 m119 hv119 => ?_)
                obtain ⟨s119_0, p119_0, p119_1, rfl, hS119, f119_0, w119_0⟩ := hv119
                refine VE.inv _ (fun _ h => h.parts (i := 126) rfl hS119 [220, 221]) ?_
                have hfa122 := tL_len (d := T_)
                refine VE.tree [9, 11] (by kernel_rfl) ⟨?_, ?_, trivial⟩
                · -- FA001000
                  refine VI.call 220 rfl rfl (.inl rfl) fnOk43 rfl rfl (fun _ _ h => Inv.sbK [129, 127, 128, 0] h) (fun W hW => coll_ok W (hW.at (i := 220) rfl) f119_0 bd) (fun v123 m123 hv123 => ?_)
                  obtain ⟨s123_0, rfl, f123_0⟩ := hv123
                  obtain ⟨A123_0, c123_0, eq123_0, l123_0, k123_0⟩ := f123_0.slice
                  subst eq123_0
                  simp only [maxLen] at k123_0
                  refine VE.tree [11] (by kernel_rfl) ⟨?_, trivial⟩
                  refine VI.alloc 225 rfl rfl tz34 (fun _ _ h => Inv.sbK [129, 127, 128, 0] h) (fun g124 => ?_)
                  refine VE.nil (by kernel_rfl) rfl ?_ rfl
                  refine VO.store (k := 1) (c' := [Value.slice A118_0 ((tL (sOld l_)).length) (c118_0)]) 217 rfl rfl (.inr ⟨tk34, rfl⟩) rfl rfl rfl rfl rfl ?_
                  refine VO.store (k := 1) (c' := [Value.slice A123_0 ((tL T_).length) (c123_0)]) 225 rfl rfl (.inr ⟨tk34, rfl⟩) rfl rfl rfl rfl rfl ?_
                  refine VO.clsP 226 [129, 221, 127, 128] rfl (fun hg126 => (mkP_storeStore (gt_, T_) (gu_, ((gd_, D_), br_, l_)) r_ hg126 w119_0 q25_1 q25_2)) (fun mc126 ho126 => ?_)
                  refine VO.kp [226, 225, 220, 133, 217, 0] [(226, mc126), (225, mone g124 (.cells [Value.slice A123_0 ((tL T_).length) (c123_0)].toArray 34 (0, 0))), (220, m123), (133, m118), (217, mone g116 (.cells [Value.slice A118_0 ((tL (sOld l_)).length) (c118_0)].toArray 34 (0, 0))), (0, mout (wm W) (m0))] ?_
                  refine VO.k5 0 2 3 4 6 ?_
                  exact outN (hJ2 ⟨g116, g124, (tL (sOld l_)), A118_0, c118_0, m118, (tL T_), A123_0, c123_0, m123, mc126⟩ _ _ ⟨by rfl, by rfl, (Ow.ownl f118_0 rfl mnil), (Ow.ownl f123_0 rfl mnil), ho126⟩ ⟨⟨rfl, rfl, rfl, rfl, trivial⟩, fun _ h => Inv.sub (Inv.num (Inv.num (Inv.num (Inv.num (Inv.num h 133 111 rfl) 220 116 rfl) 226 124 rfl) 225 123 rfl) 217 121 rfl) [124, 123, 121, 116, 111, 0]⟩)
                · -- FA001001
                  refine VI.alloc 228 rfl rfl tz34 (fun _ _ h => Inv.sbK [129, 127, 128, 0] h) (fun g127 => ?_)
                  refine VE.tree [9] (by kernel_rfl) ⟨?_, trivial⟩
                  refine VI.call 220 rfl rfl (.inl rfl) fnOk43 rfl rfl (fun _ _ h => Inv.sbK [129, 127, 128, 0] h) (fun W hW => coll_ok W (hW.at (i := 220) rfl) f119_0 bd) (fun v129 m129 hv129 => ?_)
                  obtain ⟨s129_0, rfl, f129_0⟩ := hv129
                  obtain ⟨A129_0, c129_0, eq129_0, l129_0, k129_0⟩ := f129_0.slice
                  subst eq129_0
                  simp only [maxLen] at k129_0
                  refine VE.nil (by kernel_rfl) rfl ?_ rfl
                  refine VO.store (k := 1) (c' := [Value.slice A118_0 ((tL (sOld l_)).length) (c118_0)]) 217 rfl rfl (.inr ⟨tk34, rfl⟩) rfl rfl rfl rfl rfl ?_
                  refine VO.store (k := 1) (c' := [Value.slice A129_0 ((tL T_).length) (c129_0)]) 228 rfl rfl (.inr ⟨tk34, rfl⟩) rfl rfl rfl rfl rfl ?_
                  refine VO.clsP 230 [129, 221, 127, 128] rfl (fun hg130 => (mkP_storeStore (gt_, T_) (gu_, ((gd_, D_), br_, l_)) r_ hg130 w119_0 q25_1 q25_2)) (fun mc130 ho130 => ?_)
                  refine VO.kp [230, 220, 228, 133, 217, 0] [(230, mc130), (220, m129), (228, mone g127 (.cells [Value.slice A129_0 ((tL T_).length) (c129_0)].toArray 34 (0, 0))), (133, m118), (217, mone g116 (.cells [Value.slice A118_0 ((tL (sOld l_)).length) (c118_0)].toArray 34 (0, 0))), (0, mout (wm W) (m0))] ?_
                  refine VO.k5 0 2 3 4 6 ?_
                  exact outN (hJ2 ⟨g116, g127, (tL (sOld l_)), A118_0, c118_0, m118, (tL T_), A129_0, c129_0, m129, mc130⟩ _ _ ⟨by rfl, by rfl, (Ow.ownl f118_0 rfl mnil), (Ow.ownl f129_0 rfl mnil), ho130⟩ ⟨⟨rfl, rfl, rfl, rfl, trivial⟩, fun _ h => Inv.sub (Inv.num (Inv.num (Inv.num (Inv.num (Inv.num h 133 111 rfl) 220 116 rfl) 230 124 rfl) 228 123 rfl) 217 121 rfl) [124, 123, 121, 116, 111, 0]⟩)
              · -- FA00101
                refine VI.alloc 232 rfl rfl tz34 (fun _ _ h => Inv.sbK [129, 127, 128, 0] h) (fun g131 => ?_)
                refine VE.tree [8] (by kernel_rfl) ⟨?_, trivial⟩
                refine VI.call 126 rfl rfl (.inl rfl) fnOk44 rfl rfl (fun _ _ h => Inv.sbK [129, 127, 128, 0] h) (fun W hW => tAll_ok W (hW.at (i := 126) rfl) q25_0 bd) (fun v133 m133 hv133 => ?_)
                obtain ⟨s133_0, p133_0, p133_1, rfl, hS133, f133_0, w133_0⟩ := hv133
                refine VE.inv _ (fun _ h => h.parts (i := 126) rfl hS133 [234, 235]) ?_
                have hfa136 := tL_len (d := T_)
                refine VE.tree [9] (by kernel_rfl) ⟨?_, trivial⟩
                refine VI.call 234 rfl rfl (.inl rfl) fnOk43 rfl rfl (fun _ _ h => Inv.sbK [129, 127, 128, 0] h) (fun W hW => coll_ok W (hW.at (i := 234) rfl) f133_0 bd) (fun v137 m137 hv137 => ?_)
                obtain ⟨s137_0, rfl, f137_0⟩ := hv137
                obtain ⟨A137_0, c137_0, eq137_0, l137_0, k137_0⟩ := f137_0.slice
                subst eq137_0
                simp only [maxLen] at k137_0
                refine VE.nil (by kernel_rfl) rfl ?_ rfl
                refine VO.store (k := 1) (c' := [Value.slice A118_0 ((tL (sOld l_)).length) (c118_0)]) 217 rfl rfl (.inr ⟨tk34, rfl⟩) rfl rfl rfl rfl rfl ?_
                refine VO.store (k := 1) (c' := [Value.slice A137_0 ((tL T_).length) (c137_0)]) 232 rfl rfl (.inr ⟨tk34, rfl⟩) rfl rfl rfl rfl rfl ?_
                refine VO.clsP 238 [129, 235, 127, 128] rfl (fun hg138 => (mkP_storeStore (gt_, T_) (gu_, ((gd_, D_), br_, l_)) r_ hg138 w133_0 q25_1 q25_2)) (fun mc138 ho138 => ?_)
                refine VO.kp [238, 234, 232, 133, 217, 0] [(238, mc138), (234, m137), (232, mone g131 (.cells [Value.slice A137_0 ((tL T_).length) (c137_0)].toArray 34 (0, 0))), (133, m118), (217, mone g116 (.cells [Value.slice A118_0 ((tL (sOld l_)).length) (c118_0)].toArray 34 (0, 0))), (0, mout (wm W) (m0))] ?_
                refine VO.k5 0 2 3 4 6 ?_
                exact outN (hJ2 ⟨g116, g131, (tL (sOld l_)), A118_0, c118_0, m118, (tL T_), A137_0, c137_0, m137, mc138⟩ _ _ ⟨by rfl, by rfl, (Ow.ownl f118_0 rfl mnil), (Ow.ownl f137_0 rfl mnil), ho138⟩ ⟨⟨rfl, rfl, rfl, rfl, trivial⟩, fun _ h => Inv.sub (Inv.num (Inv.num (Inv.num (Inv.num (Inv.num h 133 111 rfl) 234 116 rfl) 238 124 rfl) 232 123 rfl) 217 121 rfl) [124, 123, 121, 116, 111, 0]⟩)
            · -- FA0011
              refine VI.alloc 240 rfl rfl tz34 (fun _ _ h => Inv.sbK [129, 127, 128, 0] h) (fun g139 => ?_)
              refine VE.tree [3] (by kernel_rfl) ⟨?_, trivial⟩
              refine VI.call 133 rfl rfl (.inl rfl) fnOk43 rfl rfl (fun _ _ h => Inv.sbK [129, 127, 128, 0] h) (fun W hW => coll_ok W (hW.at (i := 133) rfl) f32_0 bd) (fun v141 m141 hv141 => ?_)
              obtain ⟨s141_0, rfl, f141_0⟩ := hv141
              obtain ⟨A141_0, c141_0, eq141_0, l141_0, k141_0⟩ := f141_0.slice
              subst eq141_0
              simp only [maxLen] at k141_0
              refine VE.tree [8] (by kernel_rfl) ⟨?_, trivial⟩
              refine VI.call 126 rfl rfl (.inl rfl) fnOk44 rfl rfl (fun _ _ h => Inv.sbK [129, 127, 128, 0] h) (fun W hW => tAll_ok W (hW.at (i := 126) rfl) q25_0 bd) (fun v142 m142 hv142 => ?_)
              obtain ⟨s142_0, p142_0, p142_1, rfl, hS142, f142_0, w142_0⟩ := hv142
              refine VE.inv _ (fun _ h => h.parts (i := 126) rfl hS142 [243, 244]) ?_
              have hfa145 := tL_len (d := T_)
              refine VE.tree [9] (by kernel_rfl) ⟨?_, trivial⟩
              refine VI.call 243 rfl rfl (.inl rfl) fnOk43 rfl rfl (fun _ _ h => Inv.sbK [129, 127, 128, 0] h) (fun W hW => coll_ok W (hW.at (i := 243) rfl) f142_0 bd) (fun v146 m146 hv146 => ?_)
              obtain ⟨s146_0, rfl, f146_0⟩ := hv146
              obtain ⟨A146_0, c146_0, eq146_0, l146_0, k146_0⟩ := f146_0.slice
              subst eq146_0
              simp only [maxLen] at k146_0
              refine VE.nil (by kernel_rfl) rfl ?_ rfl
              refine VO.store (k := 1) (c' := [Value.slice A141_0 ((tL (sOld l_)).length) (c141_0)]) 217 rfl rfl (.inr ⟨tk34, rfl⟩) rfl rfl rfl rfl rfl ?_
              refine VO.store (k := 1) (c' := [Value.slice A146_0 ((tL T_).length) (c146_0)]) 240 rfl rfl (.inr ⟨tk34, rfl⟩) rfl rfl rfl rfl rfl ?_
              refine VO.clsP 247 [129, 244, 127, 128] rfl (fun hg147 => (mkP_storeStore (gt_, T_) (gu_, ((gd_, D_), br_, l_)) r_ hg147 w142_0 q25_1 q25_2)) (fun mc147 ho147 => ?_)
              refine VO.kp [247, 243, 133, 240, 217, 0] [(247, mc147), (243, m146), (133, m141), (240, mone g139 (.cells [Value.slice A146_0 ((tL T_).length) (c146_0)].toArray 34 (0, 0))), (217, mone g116 (.cells [Value.slice A141_0 ((tL (sOld l_)).length) (c141_0)].toArray 34 (0, 0))), (0, mout (wm W) (m0))] ?_
              refine VO.k5 0 2 3 4 6 ?_
              exact outN (hJ2 ⟨g116, g139, (tL (sOld l_)), A141_0, c141_0, m141, (tL T_), A146_0, c146_0, m146, mc147⟩ _ _ ⟨by rfl, by rfl, (Ow.ownl f141_0 rfl mnil), (Ow.ownl f146_0 rfl mnil), ho147⟩ ⟨⟨rfl, rfl, rfl, rfl, trivial⟩, fun _ h => Inv.sub (Inv.num (Inv.num (Inv.num (Inv.num (Inv.num h 133 111 rfl) 243 116 rfl) 247 124 rfl) 240 123 rfl) 217 121 rfl) [124, 123, 121, 116, 111, 0]⟩)
          · -- FA002
            refine VI.alloc 249 rfl rfl tz34 (fun _ _ h => Inv.sbK [129, 127, 128, 0] h) (fun g148 => ?_)
            refine VE.tree [3, 10] (by kernel_rfl) ⟨?_, ?_, trivial⟩
            · -- FA0020
              refine VI.call 133 rfl rfl (.inl rfl) fnOk43 rfl rfl (fun _ _ h => Inv.sbK [129, 127, 128, 0] h) (fun W hW => coll_ok W (hW.at (i := 133) rfl) f32_0 bd) (fun v150 m150 hv150 => ?_)
              obtain ⟨s150_0, rfl, f150_0⟩ := hv150
              obtain ⟨A150_0, c150_0, eq150_0, l150_0, k150_0⟩ := f150_0.slice
              subst eq150_0
              simp only [maxLen] at k150_0
              refine VE.tree [8, 10] (by kernel_rfl) ⟨?_, ?_, trivial⟩
              · -- FA00200
                refine VI.call 126 rfl rfl (.inl rfl) fnOk44 rfl rfl (fun _ _ h => Inv.sbK [129, 127, 128, 0] h) (fun W hW => tAll_ok W (hW.at (i := 126) rfl) q25_0 bd) (fun v151 m151 hv151 => ?_)
                obtain ⟨s151_0, p151_0, p151_1, rfl, hS151, f151_0, w151_0⟩ := hv151
                refine VE.inv _ (fun _ h => h.parts (i := 126) rfl hS151 [252, 253]) ?_
                have hfa154 := tL_len (d := T_)
                refine VE.tree [9, 10] (by kernel_rfl) ⟨?_, ?_, trivial⟩
                · -- FA002000
                  refine VI.call 252 rfl rfl (.inl rfl) fnOk43 rfl rfl (fun _ _ h => Inv.sbK [129, 127, 128, 0] h) (fun W hW => coll_ok W (hW.at (i := 252) rfl) f151_0 bd) (fun v155 m155 hv155 => ?_)
                  obtain ⟨s155_0, rfl, f155_0⟩ := hv155
                  obtain ⟨A155_0, c155_0, eq155_0, l155_0, k155_0⟩ := f155_0.slice
                  subst eq155_0
                  simp only [maxLen] at k155_0
                  refine VE.tree [10] (by kernel_rfl) ⟨?_, trivial⟩
                  refine VI.alloc 257 rfl rfl tz34 (fun _ _ h => Inv.sbK [129, 127, 128, 0] h) (fun g156 => ?_)
                  refine VE.nil (by kernel_rfl) rfl ?_ rfl
                  refine VO.store (k := 1) (c' := [Value.slice A150_0 ((tL (sOld l_)).length) (c150_0)]) 257 rfl rfl (.inr ⟨tk34, rfl⟩) rfl rfl rfl rfl rfl ?_
                  refine VO.store (k := 1) (c' := [Value.slice A155_0 ((tL T_).length) (c155_0)]) 249 rfl rfl (.inr ⟨tk34, rfl⟩) rfl rfl rfl rfl rfl ?_
                  refine VO.clsP 258 [129, 253, 127, 128] rfl (fun hg158 => (mkP_storeStore (gt_, T_) (gu_, ((gd_, D_), br_, l_)) r_ hg158 w151_0 q25_1 q25_2)) (fun mc158 ho158 => ?_)
                  refine VO.kp [258, 257, 252, 133, 249, 0] [(258, mc158), (257, mone g156 (.cells [Value.slice A150_0 ((tL (sOld l_)).length) (c150_0)].toArray 34 (0, 0))), (252, m155), (133, m150), (249, mone g148 (.cells [Value.slice A155_0 ((tL T_).length) (c155_0)].toArray 34 (0, 0))), (0, mout (wm W) (m0))] ?_
                  refine VO.k5 0 2 3 4 6 ?_
                  exact outN (hJ2 ⟨g156, g148, (tL (sOld l_)), A150_0, c150_0, m150, (tL T_), A155_0, c155_0, m155, mc158⟩ _ _ ⟨by rfl, by rfl, (Ow.ownl f150_0 rfl mnil), (Ow.ownl f155_0 rfl mnil), ho158⟩ ⟨⟨rfl, rfl, rfl, rfl, trivial⟩, fun _ h => Inv.sub (Inv.num (Inv.num (Inv.num (Inv.num (Inv.num h 133 111 rfl) 252 116 rfl) 258 124 rfl) 249 123 rfl) 257 121 rfl) [124, 123, 121, 116, 111, 0]⟩)
                · -- FA002001
                  refine VI.alloc 260 rfl rfl tz34 (fun _ _ h => Inv.sbK [129, 127, 128, 0] h) (fun g159 => ?_)
                  refine VE.tree [9] (by kernel_rfl) ⟨?_, trivial⟩
                  refine VI.call 252 rfl rfl (.inl rfl) fnOk43 rfl rfl (fun _ _ h => Inv.sbK [129, 127, 128, 0] h) (fun W hW => coll_ok W (hW.at (i := 252) rfl) f151_0 bd) (fun v161 m161 hv161 => ?_)
                  obtain ⟨s161_0, rfl, f161_0⟩ := hv161
                  obtain ⟨A161_0, c161_0, eq161_0, l161_0, k161_0⟩ := f161_0.slice
                  subst eq161_0
                  simp only [maxLen] at k161_0
                  refine VE.nil (by kernel_rfl) rfl ?_ rfl
                  refine VO.store (k := 1) (c' := [Value.slice A150_0 ((tL (sOld l_)).length) (c150_0)]) 260 rfl rfl (.inr ⟨tk34, rfl⟩) rfl rfl rfl rfl rfl ?_
                  refine VO.store (k := 1) (c' := [Value.slice A161_0 ((tL T_).length) (c161_0)]) 249 rfl rfl (.inr ⟨tk34, rfl⟩) rfl rfl rfl rfl rfl ?_
                  refine VO.clsP 262 [129, 253, 127, 128] rfl (fun hg162 => (mkP_storeStore (gt_, T_) (gu_, ((gd_, D_), br_, l_)) r_ hg162 w151_0 q25_1 q25_2)) (fun mc162 ho162 => ?_)
                  refine VO.kp [262, 252, 260, 133, 249, 0] [(262, mc162), (252, m161), (260, mone g159 (.cells [Value.slice A150_0 ((tL (sOld l_)).length) (c150_0)].toArray 34 (0, 0))), (133, m150), (249, mone g148 (.cells [Value.slice A161_0 ((tL T_).length) (c161_0)].toArray 34 (0, 0))), (0, mout (wm W) (m0))] ?_
                  refine VO.k5 0 2 3 4 6 ?_
                  exact outN (hJ2 ⟨g159, g148, (tL (sOld l_)), A150_0, c150_0, m150, (tL T_), A161_0, c161_0, m161, mc162⟩ _ _ ⟨by rfl, by rfl, (Ow.ownl f150_0 rfl mnil), (Ow.ownl f161_0 rfl mnil), ho162⟩ ⟨⟨rfl, rfl, rfl, rfl, trivial⟩, fun _ h => Inv.sub (Inv.num (Inv.num (Inv.num (Inv.num (Inv.num h 133 111 rfl) 252 116 rfl) 262 124 rfl) 249 123 rfl) 260 121 rfl) [124, 123, 121, 116, 111, 0]⟩)
              · -- FA00201
                refine VI.alloc 264 rfl rfl tz34 (fun _ _ h => Inv.sbK [129, 127, 128, 0] h) (fun g163 => ?_)
                refine VE.tree [8] (by kernel_rfl) ⟨?_, trivial⟩
                refine VI.call 126 rfl rfl (.inl rfl) fnOk44 rfl rfl (fun _ _ h => Inv.sbK [129, 127, 128, 0] h) (fun W hW => tAll_ok W (hW.at (i := 126) rfl) q25_0 bd) (fun v165 m165 hv165 => ?_)
                obtain ⟨s165_0, p165_0, p165_1, rfl, hS165, f165_0, w165_0⟩ := hv165
                refine VE.inv _ (fun _ h => h.parts (i := 126) rfl hS165 [266, 267]) ?_
                have hfa168 := tL_len (d := T_)
                refine VE.tree [9] (by kernel_rfl) ⟨?_, trivial⟩
                refine VI.call 266 rfl rfl (.inl rfl) fnOk43 rfl rfl (fun _ _ h => Inv.sbK [129, 127, 128, 0] h) (fun W hW => coll_ok W (hW.at (i := 266) rfl) f165_0 bd) (fun v169 m169 hv169 => ?_)
                obtain ⟨s169_0, rfl, f169_0⟩ := hv169
                obtain ⟨A169_0, c169_0, eq169_0, l169_0, k169_0⟩ := f169_0.slice
                subst eq169_0
                simp only [maxLen] at k169_0
                refine VE.nil (by kernel_rfl) rfl ?_ rfl
                refine VO.store (k := 1) (c' := [Value.slice A150_0 ((tL (sOld l_)).length) (c150_0)]) 264 rfl rfl (.inr ⟨tk34, rfl⟩) rfl rfl rfl rfl rfl ?_
                refine VO.store (k := 1) (c' := [Value.slice A169_0 ((tL T_).length) (c169_0)]) 249 rfl rfl (.inr ⟨tk34, rfl⟩) rfl rfl rfl rfl rfl ?_
                refine VO.clsP 270 [129, 267, 127, 128] rfl (fun hg170 => (mkP_storeStore (gt_, T_) (gu_, ((gd_, D_), br_, l_)) r_ hg170 w165_0 q25_1 q25_2)) (fun mc170 ho170 => ?_)
                refine VO.kp [270, 266, 264, 133, 249, 0] [(270, mc170), (266, m169), (264, mone g163 (.cells [Value.slice A150_0 ((tL (sOld l_)).length) (c150_0)].toArray 34 (0, 0))), (133, m150), (249, mone g148 (.cells [Value.slice A169_0 ((tL T_).length) (c169_0)].toArray 34 (0, 0))), (0, mout (wm W) (m0))] ?_
                refine VO.k5 0 2 3 4 6 ?_
                exact outN (hJ2 ⟨g163, g148, (tL (sOld l_)), A150_0, c150_0, m150, (tL T_), A169_0, c169_0, m169, mc170⟩ _ _ ⟨by rfl, by rfl, (Ow.ownl f150_0 rfl mnil), (Ow.ownl f169_0 rfl mnil), ho170⟩ ⟨⟨rfl, rfl, rfl, rfl, trivial⟩, fun _ h => Inv.sub (Inv.num (Inv.num (Inv.num (Inv.num (Inv.num h 133 111 rfl) 266 116 rfl) 270 124 rfl) 249 123 rfl) 264 121 rfl) [124, 123, 121, 116, 111, 0]⟩)
            · -- FA0021
              refine VI.alloc 272 rfl rfl tz34 (fun _ _ h => Inv.sbK [129, 127, 128, 0] h) (fun g171 => ?_)
              refine VE.tree [3] (by kernel_rfl) ⟨?_, trivial⟩
              refine VI.call 133 rfl rfl (.inl rfl) fnOk43 rfl rfl (fun _ _ h => Inv.sbK [129, 127, 128, 0] h) (fun W hW => coll_ok W (hW.at (i := 133) rfl) f32_0 bd) (fun v173 m173 hv173 => ?_)
              obtain ⟨s173_0, rfl, f173_0⟩ := hv173
              obtain ⟨A173_0, c173_0, eq173_0, l173_0, k173_0⟩ := f173_0.slice
              subst eq173_0
              simp only [maxLen] at k173_0
              refine VE.tree [8] (by kernel_rfl) ⟨?_, trivial⟩
              refine VI.call 126 rfl rfl (.inl rfl) fnOk44 rfl rfl (fun _ _ h => Inv.sbK [129, 127, 128, 0] h) (fun W hW => tAll_ok W (hW.at (i := 126) rfl) q25_0 bd) (fun v174 m174 hv174 => ?_)
              obtain ⟨s174_0, p174_0, p174_1, rfl, hS174, f174_0, w174_0⟩ := hv174
              refine VE.inv _ (fun _ h => h.parts (i := 126) rfl hS174 [275, 276]) ?_
              have hfa177 := tL_len (d := T_)
              refine VE.tree [9] (by kernel_rfl) ⟨?_, trivial⟩
              refine VI.call 275 rfl rfl (.inl rfl) fnOk43 rfl rfl (fun _ _ h => Inv.sbK [129, 127, 128, 0] h) (fun W hW => coll_ok W (hW.at (i := 275) rfl) f174_0 bd) (fun v178 m178 hv178 => ?_)
              obtain ⟨s178_0, rfl, f178_0⟩ := hv178
              obtain ⟨A178_0, c178_0, eq178_0, l178_0, k178_0⟩ := f178_0.slice
              subst eq178_0
              simp only [maxLen] at k178_0
              refine VE.nil (by kernel_rfl) rfl ?_ rfl
              refine VO.store (k := 1) (c' := [Value.slice A173_0 ((tL (sOld l_)).length) (c173_0)]) 272 rfl rfl (.inr ⟨tk34, rfl⟩) rfl rfl rfl rfl rfl ?_
              refine VO.store (k := 1) (c' := [Value.slice A178_0 ((tL T_).length) (c178_0)]) 249 rfl rfl (.inr ⟨tk34, rfl⟩) rfl rfl rfl rfl rfl ?_
              refine VO.clsP 279 [129, 276, 127, 128] rfl (fun hg179 => (mkP_storeStore (gt_, T_) (gu_, ((gd_, D_), br_, l_)) r_ hg179 w174_0 q25_1 q25_2)) (fun mc179 ho179 => ?_)
              refine VO.kp [279, 275, 133, 272, 249, 0] [(279, mc179), (275, m178), (133, m173), (272, mone g171 (.cells [Value.slice A173_0 ((tL (sOld l_)).length) (c173_0)].toArray 34 (0, 0))), (249, mone g148 (.cells [Value.slice A178_0 ((tL T_).length) (c178_0)].toArray 34 (0, 0))), (0, mout (wm W) (m0))] ?_
              refine VO.k5 0 2 3 4 6 ?_
              exact outN (hJ2 ⟨g171, g148, (tL (sOld l_)), A173_0, c173_0, m173, (tL T_), A178_0, c178_0, m178, mc179⟩ _ _ ⟨by rfl, by rfl, (Ow.ownl f173_0 rfl mnil), (Ow.ownl f178_0 rfl mnil), ho179⟩ ⟨⟨rfl, rfl, rfl, rfl, trivial⟩, fun _ h => Inv.sub (Inv.num (Inv.num (Inv.num (Inv.num (Inv.num h 133 111 rfl) 275 116 rfl) 279 124 rfl) 249 123 rfl) 272 121 rfl) [124, 123, 121, 116, 111, 0]⟩)
        · -- FA01
          refine VI.alloc 281 rfl rfl tz34 (fun _ _ h => Inv.sbK [129, 127, 128, 0] h) (fun g180 => ?_)
          refine VE.tree [2, 11] (by kernel_rfl) ⟨?_, ?_, trivial⟩
          · -- FA010
            refine VI.call 130 rfl rfl (.inl rfl) fnOk44 rfl rfl (fun _ _ h => Inv.sbK [129, 127, 128, 0] h) (fun W hW => tAll_ok W (hW.at (i := 130) rfl) f30_0 bd) (fun v182 m182 hv182 => ?_)
            obtain ⟨s182_0, p182_0, p182_1, rfl, hS182, f182_0, w182_0⟩ := hv182
            refine VE.inv _ (fun _ h => h.parts (i := 130) rfl hS182 [283, 284]) ?_
            have hfa185 := tL_len (d := (sOld l_))
            refine VE.inv [(283, p182_0), (281, mone g180 (.cells [Value.slice none (0) (0)].toArray 34 (0, 0))), (129, mone g0 (.cells [Value.pointer (some ⟨gt_, 0, none⟩), Value.pointer (some ⟨gu_, 0, none⟩), Value.slice q25_A2 (r_.length) (q25_c2)].toArray q25_E (0, 0))), (126, q25_n0), (127, q25_n1), (128, q25_n2), (0, mout (wm W) (m0))] (fun _ h => Inv.sbK [283, 281, 129, 126, 127, 128, 0] h) ?_
            refine VE.tree [3, 11] (by kernel_rfl) ⟨?_, ?_, trivial⟩
            · -- FA0100
              refine VI.call 283 rfl rfl (.inl rfl) fnOk43 rfl rfl (fun _ _ h => Inv.sbK [129, 127, 128, 0] h) (fun W hW => coll_ok W (hW.at (i := 283) rfl) f182_0 bd) (fun v186 m186 hv186 => ?_)
              obtain ⟨s186_0, rfl, f186_0⟩ := hv186
              obtain ⟨A186_0, c186_0, eq186_0, l186_0, k186_0⟩ := f186_0.slice
              subst eq186_0
              simp only [maxLen] at k186_0
              refine VE.tree [8, 11] (by kernel_rfl) ⟨?_, ?_, trivial⟩
              · -- FA01000
                refine VI.call 126 rfl rfl (.inl rfl) fnOk44 rfl rfl (fun _ _ h => Inv.sbK [129, 127, 128, 0] h) (fun W hW => tAll_ok W (hW.at (i := 126) rfl) q25_0 bd) (fun v187 m187 hv187 => ?_)
                obtain ⟨s187_0, p187_0, p187_1, rfl, hS187, f187_0, w187_0⟩ := hv187
                refine VE.inv _ (fun _ h => h.parts (i := 126) rfl hS187 [288, 289]) ?_
                have hfa190 := tL_len (d := T_)
                refine VE.tree [9, 11] (by kernel_rfl) ⟨?_, ?_, trivial⟩
                · -- FA010000
                  refine VI.call 288 rfl rfl (.inl rfl) fnOk43 rfl rfl (fun _ _ h => Inv.sbK [129, 127, 128, 0] h) (fun W hW => coll_ok W (hW.at (i := 288) rfl) f187_0 bd) (fun v191 m191 hv191 => ?_)
                  obtain ⟨s191_0, rfl, f191_0⟩ := hv191
                  obtain ⟨A191_0, c191_0, eq191_0, l191_0, k191_0⟩ := f191_0.slice
                  subst eq191_0
                  simp only [maxLen] at k191_0
                  refine VE.tree [11] (by kernel_rfl) ⟨?_, trivial⟩
                  refine VI.alloc 293 rfl rfl tz34 (fun _ _ h => Inv.sbK [129, 127, 128, 0] h) (fun g192 => ?_)
                  refine VE.nil (by kernel_rfl) rfl ?_ rfl
                  refine VO.store (k := 1) (c' := [Value.slice A186_0 ((tL (sOld l_)).length) (c186_0)]) 281 rfl rfl (.inr ⟨tk34, rfl⟩) rfl rfl rfl rfl rfl ?_
                  refine VO.store (k := 1) (c' := [Value.slice A191_0 ((tL T_).length) (c191_0)]) 293 rfl rfl (.inr ⟨tk34, rfl⟩) rfl rfl rfl rfl rfl ?_
                  refine VO.clsP 294 [129, 289, 127, 128] rfl (fun hg194 => (mkP_storeStore (gt_, T_) (gu_, ((gd_, D_), br_, l_)) r_ hg194 w187_0 q25_1 q25_2)) (fun mc194 ho194 => ?_)
                  refine VO.kp [294, 293, 288, 283, 281, 0] [(294, mc194), (293, mone g192 (.cells [Value.slice A191_0 ((tL T_).length) (c191_0)].toArray 34 (0, 0))), (288, m191), (283, m186), (281, mone g180 (.cells [Value.slice A186_0 ((tL (sOld l_)).length) (c186_0)].toArray 34 (0, 0))), (0, mout (wm W) (m0))] ?_
                  refine VO.k5 0 2 3 4 6 ?_
                  exact outN (hJ2 ⟨g180, g192, (tL (sOld l_)), A186_0, c186_0, m186, (tL T_), A191_0, c191_0, m191, mc194⟩ _ _ ⟨by rfl, by rfl, (Ow.ownl f186_0 rfl mnil), (Ow.ownl f191_0 rfl mnil), ho194⟩ ⟨⟨rfl, rfl, rfl, rfl, trivial⟩, fun _ h => Inv.sub (Inv.num (Inv.num (Inv.num (Inv.num (Inv.num h 283 111 rfl) 288 116 rfl) 294 124 rfl) 293 123 rfl) 281 121 rfl) [124, 123, 121, 116, 111, 0]⟩)
                · -- FA010001
                  refine VI.alloc 296 rfl rfl tz34 (fun _ _ h => Inv.sbK [129, 127, 128, 0] h) (fun g195 => ?_)
                  refine VE.tree [9] (by kernel_rfl) ⟨?_, trivial⟩
                  refine VI.call 288 rfl rfl (.inl rfl) fnOk43 rfl rfl (fun _ _ h => Inv.sbK [129, 127, 128, 0] h) (fun W hW => coll_ok W (hW.at (i := 288) rfl) f187_0 bd) (fun v197 m197 hv197 => ?_)
                  obtain ⟨s197_0, rfl, f197_0⟩ := hv197
                  obtain ⟨A197_0, c197_0, eq197_0, l197_0, k197_0⟩ := f197_0.slice
                  subst eq197_0
                  simp only [maxLen] at k197_0
                  refine VE.nil (by kernel_rfl) rfl ?_ rfl
                  refine VO.store (k := 1) (c' := [Value.slice A186_0 ((tL (sOld l_)).length) (c186_0)]) 281 rfl rfl (.inr ⟨tk34, rfl⟩) rfl rfl rfl rfl rfl ?_
                  refine VO.store (k := 1) (c' := [Value.slice A197_0 ((tL T_).length) (c197_0)]) 296 rfl rfl (.inr ⟨tk34, rfl⟩) rfl rfl rfl rfl rfl ?_
                  refine VO.clsP 298 [129, 289, 127, 128] rfl (fun hg198 => (mkP_storeStore (gt_, T_) (gu_, ((gd_, D_), br_, l_)) r_ hg198 w187_0 q25_1 q25_2)) (fun mc198 ho198 => ?_)
                  refine VO.kp [298, 288, 296, 283, 281, 0] [(298, mc198), (288, m197), (296, mone g195 (.cells [Value.slice A197_0 ((tL T_).length) (c197_0)].toArray 34 (0, 0))), (283, m186), (281, mone g180 (.cells [Value.slice A186_0 ((tL (sOld l_)).length) (c186_0)].toArray 34 (0, 0))), (0, mout (wm W) (m0))] ?_
                  refine VO.k5 0 2 3 4 6 ?_
                  exact outN (hJ2 ⟨g180, g195, (tL (sOld l_)), A186_0, c186_0, m186, (tL T_), A197_0, c197_0, m197, mc198⟩ _ _ ⟨by rfl, by rfl, (Ow.ownl f186_0 rfl mnil), (Ow.ownl f197_0 rfl mnil), ho198⟩ ⟨⟨rfl, rfl, rfl, rfl, trivial⟩, fun _ h => Inv.sub (Inv.num (Inv.num (Inv.num (Inv.num (Inv.num h 283 111 rfl) 288 116 rfl) 298 124 rfl) 296 123 rfl) 281 121 rfl) [124, 123, 121, 116, 111, 0]⟩)
              · -- FA01001
                refine VI.alloc 300 rfl rfl tz34 (fun _ _ h => Inv.sbK [129, 127, 128, 0] h) (fun g199 => ?_)
                refine VE.tree [8] (by kernel_rfl) ⟨?_, trivial⟩
                refine VI.call 126 rfl rfl (.inl rfl) fnOk44 rfl rfl (fun _ _ h => Inv.sbK [129, 127, 128, 0] h) (fun W hW => tAll_ok W (hW.at (i := 126) rfl) q25_0 bd) (fun v201 m201 hv201 => ?_)
                obtain ⟨s201_0, p201_0, p201_1, rfl, hS201, f201_0, w201_0⟩ := hv201
                refine VE.inv _ (fun _ h => h.parts (i := 126) rfl hS201 [302, 303]) ?_
                have hfa204 := tL_len (d := T_)
                refine VE.tree [9] (by kernel_rfl) ⟨?_, trivial⟩
                refine VI.call 302 rfl rfl (.inl rfl) fnOk43 rfl rfl (fun _ _ h => Inv.sbK [129, 127, 128, 0] h) (fun W hW => coll_ok W (hW.at (i := 302) rfl) f201_0 bd) (fun v205 m205 hv205 => ?_)
                obtain ⟨s205_0, rfl, f205_0⟩ := hv205
                obtain ⟨A205_0, c205_0, eq205_0, l205_0, k205_0⟩ := f205_0.slice
                subst eq205_0
                simp only [maxLen] at k205_0
                refine VE.nil (by kernel_rfl) rfl ?_ rfl
                refine VO.store (k := 1) (c' := [Value.slice A186_0 ((tL (sOld l_)).length) (c186_0)]) 281 rfl rfl (.inr ⟨tk34, rfl⟩) rfl rfl rfl rfl rfl ?_
                refine VO.store (k := 1) (c' := [Value.slice A205_0 ((tL T_).length) (c205_0)]) 300 rfl rfl (.inr ⟨tk34, rfl⟩) rfl rfl rfl rfl rfl ?_
                refine VO.clsP 306 [129, 303, 127, 128] rfl (fun hg206 => (mkP_storeStore (gt_, T_) (gu_, ((gd_, D_), br_, l_)) r_ hg206 w201_0 q25_1 q25_2)) (fun mc206 ho206 => ?_)
                refine VO.kp [306, 302, 300, 283, 281, 0] [(306, mc206), (302, m205), (300, mone g199 (.cells [Value.slice A205_0 ((tL T_).length) (c205_0)].toArray 34 (0, 0))), (283, m186), (281, mone g180 (.cells [Value.slice A186_0 ((tL (sOld l_)).length) (c186_0)].toArray 34 (0, 0))), (0, mout (wm W) (m0))] ?_
                refine VO.k5 0 2 3 4 6 ?_
                exact outN (hJ2 ⟨g180, g199, (tL (sOld l_)), A186_0, c186_0, m186, (tL T_), A205_0, c205_0, m205, mc206⟩ _ _ ⟨by rfl, by rfl, (Ow.ownl f186_0 rfl mnil), (Ow.ownl f205_0 rfl mnil), ho206⟩ ⟨⟨rfl, rfl, rfl, rfl, trivial⟩, fun _ h => Inv.sub (Inv.num (Inv.num (Inv.num (Inv.num (Inv.num h 283 111 rfl) 302 116 rfl) 306 124 rfl) 300 123 rfl) 281 121 rfl) [124, 123, 121, 116, 111, 0]⟩)
            · -- FA0101
              refine VI.alloc 308 rfl rfl tz34 (fun _ _ h => Inv.sbK [129, 127, 128, 0] h) (fun g207 => ?_)
              refine VE.tree [3] (by kernel_rfl) ⟨?_, trivial⟩
              refine VI.call 283 rfl rfl (.inl rfl) fnOk43 rfl rfl (fun _ _ h => Inv.sbK [129, 127, 128, 0] h) (fun W hW => coll_ok W (hW.at (i := 283) rfl) f182_0 bd) (fun v209 m209 hv209 => ?_)
              obtain ⟨s209_0, rfl, f209_0⟩ := hv209
              obtain ⟨A209_0, c209_0, eq209_0, l209_0, k209_0⟩ := f209_0.slice
              subst eq209_0
              simp only [maxLen] at k209_0
              refine VE.tree [8] (by kernel_rfl) ⟨?_, trivial⟩
              refine VI.call 126 rfl rfl (.inl rfl) fnOk44 rfl rfl (fun _ _ h => Inv.sbK [129, 127, 128, 0] h) (fun W hW => tAll_ok W (hW.at (i := 126) rfl) q25_0 bd) (fun v210 m210 hv210 => ?_)
              obtain ⟨s210_0, p210_0, p210_1, rfl, hS210, f210_0, w210_0⟩ := hv210
              refine VE.inv _ (fun _ h => h.parts (i := 126) rfl hS210 [311, 312]) ?_
              have hfa213 := tL_len (d := T_)
              refine VE.tree [9] (by kernel_rfl) ⟨?_, trivial⟩
              refine VI.call 311 rfl rfl (.inl rfl) fnOk43 rfl rfl (fun _ _ h => Inv.sbK [129, 127, 128, 0] h) (fun W hW => coll_ok W (hW.at (i := 311) rfl) f210_0 bd) (fun v214 m214 hv214 => ?_)
              obtain ⟨s214_0, rfl, f214_0⟩ := hv214
              obtain ⟨A214_0, c214_0, eq214_0, l214_0, k214_0⟩ := f214_0.slice
              subst eq214_0
              simp only [maxLen] at k214_0
              refine VE.nil (by kernel_rfl) rfl ?_ rfl
              refine VO.store (k := 1) (c' := [Value.slice A209_0 ((tL (sOld l_)).length) (c209_0)]) 281 rfl rfl (.inr ⟨tk34, rfl⟩) rfl rfl rfl rfl rfl ?_
              refine VO.store (k := 1) (c' := [Value.slice A214_0 ((tL T_).length) (c214_0)]) 308 rfl rfl (.inr ⟨tk34, rfl⟩) rfl rfl rfl rfl rfl ?_
              refine VO.clsP 315 [129, 312, 127, 128] rfl (fun hg215 => (mkP_storeStore (gt_, T_) (gu_, ((gd_, D_), br_, l_)) r_ hg215 w210_0 q25_1 q25_2)) (fun mc215 ho215 => ?_)
              refine VO.kp [315, 311, 283, 308, 281, 0] [(315, mc215), (311, m214), (283, m209), (308, mone g207 (.cells [Value.slice A214_0 ((tL T_).length) (c214_0)].toArray 34 (0, 0))), (281, mone g180 (.cells [Value.slice A209_0 ((tL (sOld l_)).length) (c209_0)].toArray 34 (0, 0))), (0, mout (wm W) (m0))] ?_
              refine VO.k5 0 2 3 4 6 ?_
              exact outN (hJ2 ⟨g180, g207, (tL (sOld l_)), A209_0, c209_0, m209, (tL T_), A214_0, c214_0, m214, mc215⟩ _ _ ⟨by rfl, by rfl, (Ow.ownl f209_0 rfl mnil), (Ow.ownl f214_0 rfl mnil), ho215⟩ ⟨⟨rfl, rfl, rfl, rfl, trivial⟩, fun _ h => Inv.sub (Inv.num (Inv.num (Inv.num (Inv.num (Inv.num h 283 111 rfl) 311 116 rfl) 315 124 rfl) 308 123 rfl) 281 121 rfl) [124, 123, 121, 116, 111, 0]⟩)
          · -- FA011
            refine VI.alloc 317 rfl rfl tz34 (fun _ _ h => Inv.sbK [129, 127, 128, 0] h) (fun g216 => ?_)
            refine VE.tree [2] (by kernel_rfl) ⟨?_, trivial⟩
            refine VI.call 130 rfl rfl (.inl rfl) fnOk44 rfl rfl (fun _ _ h => Inv.sbK [129, 127, 128, 0] h) (fun W hW => tAll_ok W (hW.at (i := 130) rfl) f30_0 bd) (fun v218 m218 hv218 => ?_)
            obtain ⟨s218_0, p218_0, p218_1, rfl, hS218, f218_0, w218_0⟩ := hv218
            refine VE.inv _ (fun _ h => h.parts (i := 130) rfl hS218 [319, 320]) ?_
            have hfa221 := tL_len (d := (sOld l_))
            refine VE.inv [(319, p218_0), (317, mone g216 (.cells [Value.slice none (0) (0)].toArray 34 (0, 0))), (281, mone g180 (.cells [Value.slice none (0) (0)].toArray 34 (0, 0))), (129, mone g0 (.cells [Value.pointer (some ⟨gt_, 0, none⟩), Value.pointer (some ⟨gu_, 0, none⟩), Value.slice q25_A2 (r_.length) (q25_c2)].toArray q25_E (0, 0))), (126, q25_n0), (127, q25_n1), (128, q25_n2), (0, mout (wm W) (m0))] (fun _ h => Inv.sbK [319, 317, 281, 129, 126, 127, 128, 0] h) ?_
            refine VE.tree [3] (by kernel_rfl) ⟨?_, trivial⟩
            refine VI.call 319 rfl rfl (.inl rfl) fnOk43 rfl rfl (fun _ _ h => Inv.sbK [129, 127, 128, 0] h) (fun W hW => coll_ok W (hW.at (i := 319) rfl) f218_0 bd) (fun v222 m222 hv222 => ?_)
            obtain ⟨s222_0, rfl, f222_0⟩ := hv222
            obtain ⟨A222_0, c222_0, eq222_0, l222_0, k222_0⟩ := f222_0.slice
            subst eq222_0
            simp only [maxLen] at k222_0
            refine VE.tree [8] (by kernel_rfl) ⟨?_, trivial⟩
            refine VI.call 126 rfl rfl (.inl rfl) fnOk44 rfl rfl (fun _ _ h => Inv.sbK [129, 127, 128, 0] h) (fun W hW => tAll_ok W (hW.at (i := 126) rfl) q25_0 bd) (fun v223 m223 hv223 => ?_)
            obtain ⟨s223_0, p223_0, p223_1, rfl, hS223, f223_0, w223_0⟩ := hv223
            refine VE.inv _ (fun _ h => h.parts (i := 126) rfl hS223 [324, 325]) ?_
            have hfa226 := tL_len (d := T_)
            refine VE.tree [9] (by kernel_rfl) ⟨?_, trivial⟩
            refine VI.call 324 rfl rfl (.inl rfl) fnOk43 rfl rfl (fun _ _ h => Inv.sbK [129, 127, 128, 0] h) (fun W hW => coll_ok W (hW.at (i := 324) rfl) f223_0 bd) (fun v227 m227 hv227 => ?_)
            obtain ⟨s227_0, rfl, f227_0⟩ := hv227
            obtain ⟨A227_0, c227_0, eq227_0, l227_0, k227_0⟩ := f227_0.slice
            subst eq227_0
            simp only [maxLen] at k227_0
            refine VE.nil (by kernel_rfl) rfl ?_ rfl
            refine VO.store (k := 1) (c' := [Value.slice A222_0 ((tL (sOld l_)).length) (c222_0)]) 281 rfl rfl (.inr ⟨tk34, rfl⟩) rfl rfl rfl rfl rfl ?_
            refine VO.store (k := 1) (c' := [Value.slice A227_0 ((tL T_).length) (c227_0)]) 317 rfl rfl (.inr ⟨tk34, rfl⟩) rfl rfl rfl rfl rfl ?_
            refine VO.clsP 328 [129, 325, 127, 128] rfl (fun hg228 => (mkP_storeStore (gt_, T_) (gu_, ((gd_, D_), br_, l_)) r_ hg228 w223_0 q25_1 q25_2)) (fun mc228 ho228 => ?_)
            refine VO.kp [328, 324, 319, 317, 281, 0] [(328, mc228), (324, m227), (319, m222), (317, mone g216 (.cells [Value.slice A227_0 ((tL T_).length) (c227_0)].toArray 34 (0, 0))), (281, mone g180 (.cells [Value.slice A222_0 ((tL (sOld l_)).length) (c222_0)].toArray 34 (0, 0))), (0, mout (wm W) (m0))] ?_
            refine VO.k5 0 2 3 4 6 ?_
            exact outN (hJ2 ⟨g180, g216, (tL (sOld l_)), A222_0, c222_0, m222, (tL T_), A227_0, c227_0, m227, mc228⟩ _ _ ⟨by rfl, by rfl, (Ow.ownl f222_0 rfl mnil), (Ow.ownl f227_0 rfl mnil), ho228⟩ ⟨⟨rfl, rfl, rfl, rfl, trivial⟩, fun _ h => Inv.sub (Inv.num (Inv.num (Inv.num (Inv.num (Inv.num h 319 111 rfl) 324 116 rfl) 328 124 rfl) 317 123 rfl) 281 121 rfl) [124, 123, 121, 116, 111, 0]⟩)
        · -- FA02
          refine VI.alloc 330 rfl rfl tz34 (fun _ _ h => Inv.sbK [129, 127, 128, 0] h) (fun g229 => ?_)
          refine VE.tree [2, 10] (by kernel_rfl) ⟨?_, ?_, trivial⟩
          · -- FA020
            refine VI.call 130 rfl rfl (.inl rfl) fnOk44 rfl rfl (fun _ _ h => Inv.sbK [129, 127, 128, 0] h) (fun W hW => tAll_ok W (hW.at (i := 130) rfl) f30_0 bd) (fun v231 m231 hv231 => ?_)
            obtain ⟨s231_0, p231_0, p231_1, rfl, hS231, f231_0, w231_0⟩ := hv231
            refine VE.inv _ (fun _ h => h.parts (i := 130) rfl hS231 [332, 333]) ?_
            have hfa234 := tL_len (d := (sOld l_))
            refine VE.inv [(332, p231_0), (330, mone g229 (.cells [Value.slice none (0) (0)].toArray 34 (0, 0))), (129, mone g0 (.cells [Value.pointer (some ⟨gt_, 0, none⟩), Value.pointer (some ⟨gu_, 0, none⟩), Value.slice q25_A2 (r_.length) (q25_c2)].toArray q25_E (0, 0))), (126, q25_n0), (127, q25_n1), (128, q25_n2), (0, mout (wm W) (m0))] (fun _ h => Inv.sbK [332, 330, 129, 126, 127, 128, 0] h) ?_
            refine VE.tree [3, 10] (by kernel_rfl) ⟨?_, ?_, trivial⟩
            · -- FA0200
              refine VI.call 332 rfl rfl (.inl rfl) fnOk43 rfl rfl (fun _ _ h => Inv.sbK [129, 127, 128, 0] h) (fun W hW => coll_ok W (hW.at (i := 332) rfl) f231_0 bd) (fun v235 m235 hv235 => ?_)
              obtain ⟨s235_0, rfl, f235_0⟩ := hv235
              obtain ⟨A235_0, c235_0, eq235_0, l235_0, k235_0⟩ := f235_0.slice
              subst eq235_0
              simp only [maxLen] at k235_0
              refine VE.tree [8, 10] (by kernel_rfl) ⟨?_, ?_, trivial⟩
              · -- FA02000
                refine VI.call 126 rfl rfl (.inl rfl) fnOk44 rfl rfl (fun _ _ h => Inv.sbK [129, 127, 128, 0] h) (fun W hW => tAll_ok W (hW.at (i := 126) rfl) q25_0 bd) (fun v236 m236 hv236 => ?_)
                obtain ⟨s236_0, p236_0, p236_1, rfl, hS236, f236_0, w236_0⟩ := hv236
                refine VE.inv _ (fun _ h => h.parts (i := 126) rfl hS236 [337, 338]) ?_
                have hfa239 := tL_len (d := T_)
                refine VE.tree [9, 10] (by kernel_rfl) ⟨?_, ?_, trivial⟩
                · -- FA020000
                  refine VI.call 337 rfl rfl (.inl rfl) fnOk43 rfl rfl (fun _ _ h => Inv.sbK [129, 127, 128, 0] h) (fun W hW => coll_ok W (hW.at (i := 337) rfl) f236_0 bd) (fun v240 m240 hv240 => ?_)
                  obtain ⟨s240_0, rfl, f240_0⟩ := hv240
                  obtain ⟨A240_0, c240_0, eq240_0, l240_0, k240_0⟩ := f240_0.slice
                  subst eq240_0
                  simp only [maxLen] at k240_0
                  refine VE.tree [10] (by kernel_rfl) ⟨?_, trivial⟩
                  refine VI.alloc 342 rfl rfl tz34 (fun _ _ h => Inv.sbK [129, 127, 128, 0] h) (fun g241 => ?_)
                  refine VE.nil (by kernel_rfl) rfl ?_ rfl
                  refine VO.store (k := 1) (c' := [Value.slice A235_0 ((tL (sOld l_)).length) (c235_0)]) 342 rfl rfl (.inr ⟨tk34, rfl⟩) rfl rfl rfl rfl rfl ?_
                  refine VO.store (k := 1) (c' := [Value.slice A240_0 ((tL T_).length) (c240_0)]) 330 rfl rfl (.inr ⟨tk34, rfl⟩) rfl rfl rfl rfl rfl ?_
                  refine VO.clsP 343 [129, 338, 127, 128] rfl (fun hg243 => (mkP_storeStore (gt_, T_) (gu_, ((gd_, D_), br_, l_)) r_ hg243 w236_0 q25_1 q25_2)) (fun mc243 ho243 => ?_)
                  refine VO.kp [343, 342, 337, 332, 330, 0] [(343, mc243), (342, mone g241 (.cells [Value.slice A235_0 ((tL (sOld l_)).length) (c235_0)].toArray 34 (0, 0))), (337, m240), (332, m235), (330, mone g229 (.cells [Value.slice A240_0 ((tL T_).length) (c240_0)].toArray 34 (0, 0))), (0, mout (wm W) (m0))] ?_
                  refine VO.k5 0 2 3 4 6 ?_
                  exact outN (hJ2 ⟨g241, g229, (tL (sOld l_)), A235_0, c235_0, m235, (tL T_), A240_0, c240_0, m240, mc243⟩ _ _ ⟨by rfl, by rfl, (Ow.ownl f235_0 rfl mnil), (Ow.ownl f240_0 rfl mnil), ho243⟩ ⟨⟨rfl, rfl, rfl, rfl, trivial⟩, fun _ h => Inv.sub (Inv.num (Inv.num (Inv.num (Inv.num (Inv.num h 332 111 rfl) 337 116 rfl) 343 124 rfl) 330 123 rfl) 342 121 rfl) [124, 123, 121, 116, 111, 0]⟩)
                · -- FA020001
                  refine VI.alloc 345 rfl rfl tz34 (fun _ _ h => Inv.sbK [129, 127, 128, 0] h) (fun g244 => ?_)
                  refine VE.tree [9] (by kernel_rfl) ⟨?_, trivial⟩
                  refine VI.call 337 rfl rfl (.inl rfl) fnOk43 rfl rfl (fun _ _ h => Inv.sbK [129, 127, 128, 0] h) (fun W hW => coll_ok W (hW.at (i := 337) rfl) f236_0 bd) (fun v246 m246 hv246 => ?_)
                  obtain ⟨s246_0, rfl, f246_0⟩ := hv246
                  obtain ⟨A246_0, c246_0, eq246_0, l246_0, k246_0⟩ := f246_0.slice
                  subst eq246_0
                  simp only [maxLen] at k246_0
                  refine VE.nil (by kernel_rfl) rfl ?_ rfl
                  refine VO.store (k := 1) (c' := [Value.slice A235_0 ((tL (sOld l_)).length) (c235_0)]) 345 rfl rfl (.inr ⟨tk34, rfl⟩) rfl rfl rfl rfl rfl ?_
                  refine VO.store (k := 1) (c' := [Value.slice A246_0 ((tL T_).length) (c246_0)]) 330 rfl rfl (.inr ⟨tk34, rfl⟩) rfl rfl rfl rfl rfl ?_
                  refine VO.clsP 347 [129, 338, 127, 128] rfl (fun hg247 => (mkP_storeStore (gt_, T_) (gu_, ((gd_, D_), br_, l_)) r_ hg247 w236_0 q25_1 q25_2)) (fun mc247 ho247 => ?_)
                  refine VO.kp [347, 337, 345, 332, 330, 0] [(347, mc247), (337, m246), (345, mone g244 (.cells [Value.slice A235_0 ((tL (sOld l_)).length) (c235_0)].toArray 34 (0, 0))), (332, m235), (330, mone g229 (.cells [Value.slice A246_0 ((tL T_).length) (c246_0)].toArray 34 (0, 0))), (0, mout (wm W) (m0))] ?_
                  refine VO.k5 0 2 3 4 6 ?_
                  exact outN (hJ2 ⟨g244, g229, (tL (sOld l_)), A235_0, c235_0, m235, (tL T_), A246_0, c246_0, m246, mc247⟩ _ _ ⟨by rfl, by rfl, (Ow.ownl f235_0 rfl mnil), (Ow.ownl f246_0 rfl mnil), ho247⟩ ⟨⟨rfl, rfl, rfl, rfl, trivial⟩, fun _ h => Inv.sub (Inv.num (Inv.num (Inv.num (Inv.num (Inv.num h 332 111 rfl) 337 116 rfl) 347 124 rfl) 330 123 rfl) 345 121 rfl) [124, 123, 121, 116, 111, 0]⟩)
              · -- FA02001
                refine VI.alloc 349 rfl rfl tz34 (fun _ _ h => Inv.sbK [129, 127, 128, 0] h) (fun g248 => ?_)
                refine VE.tree [8] (by kernel_rfl) ⟨?_, trivial⟩
                refine VI.call 126 rfl rfl (.inl rfl) fnOk44 rfl rfl (fun _ _ h => Inv.sbK [129, 127, 128, 0] h) (fun W hW => tAll_ok W (hW.at (i := 126) rfl) q25_0 bd) (fun v250 m250 hv250 => ?_)
                obtain ⟨s250_0, p250_0, p250_1, rfl, hS250, f250_0, w250_0⟩ := hv250
                refine VE.inv _ (fun _ h => h.parts (i := 126) rfl hS250 [351, 352]) ?_
                have hfa253 := tL_len (d := T_)
                refine VE.tree [9] (by kernel_rfl) ⟨?_, trivial⟩
                refine VI.call 351 rfl rfl (.inl rfl) fnOk43 rfl rfl (fun _ _ h => Inv.sbK [129, 127, 128, 0] h) (fun W hW => coll_ok W (hW.at (i := 351) rfl) f250_0 bd) (fun v254 m254 hv254 => ?_)
                obtain ⟨s254_0, rfl, f254_0⟩ := hv254
                obtain ⟨A254_0, c254_0, eq254_0, l254_0, k254_0⟩ := f254_0.slice
                subst eq254_0
                simp only [maxLen] at k254_0
                refine VE.nil (by kernel_rfl) rfl ?_ rfl
                refine VO.store (k := 1) (c' := [Value.slice A235_0 ((tL (sOld l_)).length) (c235_0)]) 349 rfl rfl (.inr ⟨tk34, rfl⟩) rfl rfl rfl rfl rfl ?_
                refine VO.store (k := 1) (c' := [Value.slice A254_0 ((tL T_).length) (c254_0)]) 330 rfl rfl (.inr ⟨tk34, rfl⟩) rfl rfl rfl rfl rfl ?_
                refine VO.clsP 355 [129, 352, 127, 128] rfl (fun hg255 => (mkP_storeStore (gt_, T_) (gu_, ((gd_, D_), br_, l_)) r_ hg255 w250_0 q25_1 q25_2)) (fun mc255 ho255 => ?_)
                refine VO.kp [355, 351, 349, 332, 330, 0] [(355, mc255), (351, m254), (349, mone g248 (.cells [Value.slice A235_0 ((tL (sOld l_)).length) (c235_0)].toArray 34 (0, 0))), (332, m235), (330, mone g229 (.cells [Value.slice A254_0 ((tL T_).length) (c254_0)].toArray 34 (0, 0))), (0, mout (wm W) (m0))] ?_
                refine VO.k5 0 2 3 4 6 ?_
                exact outN (hJ2 ⟨g248, g229, (tL (sOld l_)), A235_0, c235_0, m235, (tL T_), A254_0, c254_0, m254, mc255⟩ _ _ ⟨by rfl, by rfl, (Ow.ownl f235_0 rfl mnil), (Ow.ownl f254_0 rfl mnil), ho255⟩ ⟨⟨rfl, rfl, rfl, rfl, trivial⟩, fun _ h => Inv.sub (Inv.num (Inv.num (Inv.num (Inv.num (Inv.num h 332 111 rfl) 351 116 rfl) 355 124 rfl) 330 123 rfl) 349 121 rfl) [124, 123, 121, 116, 111, 0]⟩)
            · -- FA0201
              refine VI.alloc 357 rfl rfl tz34 (fun _ _ h => Inv.sbK [129, 127, 128, 0] h) (fun g256 => ?_)
              refine VE.tree [3] (by kernel_rfl) ⟨?_, trivial⟩
              refine VI.call 332 rfl rfl (.inl rfl) fnOk43 rfl rfl (fun _ _ h => Inv.sbK [129, 127, 128, 0] h) (fun W hW => coll_ok W (hW.at (i := 332) rfl) f231_0 bd) (fun v258 m258 hv258 => ?_)
              obtain ⟨s258_0, rfl, f258_0⟩ := hv258
              obtain ⟨A258_0, c258_0, eq258_0, l258_0, k258_0⟩ := f258_0.slice
              subst eq258_0
              simp only [maxLen] at k258_0
              refine VE.tree [8] (by kernel_rfl) ⟨?_, trivial⟩
              refine VI.call 126 rfl rfl (.inl rfl) fnOk44 rfl rfl (fun _ _ h => Inv.sbK [129, 127, 128, 0] h) (fun W hW => tAll_ok W (hW.at (i := 126) rfl) q25_0 bd) (fun v259 m259 hv259 => ?_)
              obtain ⟨s259_0, p259_0, p259_1, rfl, hS259, f259_0, w259_0⟩ := hv259
              refine VE.inv _ (fun _ h => h.parts (i := 126) rfl hS259 [360, 361]) ?_
              have hfa262 := tL_len (d := T_)
              refine VE.tree [9] (by kernel_rfl) ⟨?_, trivial⟩
              refine VI.call 360 rfl rfl (.inl rfl) fnOk43 rfl rfl (fun _ _ h => Inv.sbK [129, 127, 128, 0] h) (fun W hW => coll_ok W (hW.at (i := 360) rfl) f259_0 bd) (fun v263 m263 hv263 => ?_)
              obtain ⟨s263_0, rfl, f263_0⟩ := hv263
              obtain ⟨A263_0, c263_0, eq263_0, l263_0, k263_0⟩ := f263_0.slice
              subst eq263_0
              simp only [maxLen] at k263_0
              refine VE.nil (by kernel_rfl) rfl ?_ rfl
              refine VO.store (k := 1) (c' := [Value.slice A258_0 ((tL (sOld l_)).length) (c258_0)]) 357 rfl rfl (.inr ⟨tk34, rfl⟩) rfl rfl rfl rfl rfl ?_
              refine VO.store (k := 1) (c' := [Value.slice A263_0 ((tL T_).length) (c263_0)]) 330 rfl rfl (.inr ⟨tk34, rfl⟩) rfl rfl rfl rfl rfl ?_
              refine VO.clsP 364 [129, 361, 127, 128] rfl (fun hg264 => (mkP_storeStore (gt_, T_) (gu_, ((gd_, D_), br_, l_)) r_ hg264 w259_0 q25_1 q25_2)) (fun mc264 ho264 => ?_)
              refine VO.kp [364, 360, 332, 357, 330, 0] [(364, mc264), (360, m263), (332, m258), (357, mone g256 (.cells [Value.slice A258_0 ((tL (sOld l_)).length) (c258_0)].toArray 34 (0, 0))), (330, mone g229 (.cells [Value.slice A263_0 ((tL T_).length) (c263_0)].toArray 34 (0, 0))), (0, mout (wm W) (m0))] ?_
              refine VO.k5 0 2 3 4 6 ?_
              exact outN (hJ2 ⟨g256, g229, (tL (sOld l_)), A258_0, c258_0, m258, (tL T_), A263_0, c263_0, m263, mc264⟩ _ _ ⟨by rfl, by rfl, (Ow.ownl f258_0 rfl mnil), (Ow.ownl f263_0 rfl mnil), ho264⟩ ⟨⟨rfl, rfl, rfl, rfl, trivial⟩, fun _ h => Inv.sub (Inv.num (Inv.num (Inv.num (Inv.num (Inv.num h 332 111 rfl) 360 116 rfl) 364 124 rfl) 330 123 rfl) 357 121 rfl) [124, 123, 121, 116, 111, 0]⟩)
          · -- FA021
            refine VI.alloc 366 rfl rfl tz34 (fun _ _ h => Inv.sbK [129, 127, 128, 0] h) (fun g265 => ?_)
            refine VE.tree [2] (by kernel_rfl) ⟨?_, trivial⟩
            refine VI.call 130 rfl rfl (.inl rfl) fnOk44 rfl rfl (fun _ _ h => Inv.sbK [129, 127, 128, 0] h) (fun W hW => tAll_ok W (hW.at (i := 130) rfl) f30_0 bd) (fun v267 m267 hv267 => ?_)
            obtain ⟨s267_0, p267_0, p267_1, rfl, hS267, f267_0, w267_0⟩ := hv267
            refine VE.inv _ (fun _ h => h.parts (i := 130) rfl hS267 [368, 369]) ?_
            have hfa270 := tL_len (d := (sOld l_))
            refine VE.inv [(368, p267_0), (366, mone g265 (.cells [Value.slice none (0) (0)].toArray 34 (0, 0))), (330, mone g229 (.cells [Value.slice none (0) (0)].toArray 34 (0, 0))), (129, mone g0 (.cells [Value.pointer (some ⟨gt_, 0, none⟩), Value.pointer (some ⟨gu_, 0, none⟩), Value.slice q25_A2 (r_.length) (q25_c2)].toArray q25_E (0, 0))), (126, q25_n0), (127, q25_n1), (128, q25_n2), (0, mout (wm W) (m0))] (fun _ h => Inv.sbK [368, 366, 330, 129, 126, 127, 128, 0] h) ?_
            refine VE.tree [3] (by kernel_rfl) ⟨?_, trivial⟩
            refine VI.call 368 rfl rfl (.inl rfl) fnOk43 rfl rfl (fun _ _ h => Inv.sbK [129, 127, 128, 0] h) (fun W hW => coll_ok W (hW.at (i := 368) rfl) f267_0 bd) (fun v271 m271 hv271 => ?_)
            obtain ⟨s271_0, rfl, f271_0⟩ := hv271
            obtain ⟨A271_0, c271_0, eq271_0, l271_0, k271_0⟩ := f271_0.slice
            subst eq271_0
            simp only [maxLen] at k271_0
            refine VE.tree [8] (by kernel_rfl) ⟨?_, trivial⟩
            refine VI.call 126 rfl rfl (.inl rfl) fnOk44 rfl rfl (fun _ _ h => Inv.sbK [129, 127, 128, 0] h) (fun W hW => tAll_ok W (hW.at (i := 126) rfl) q25_0 bd) (fun v272 m272 hv272 => ?_)
            obtain ⟨s272_0, p272_0, p272_1, rfl, hS272, f272_0, w272_0⟩ := hv272
            refine VE.inv _ (fun _ h => h.parts (i := 126) rfl hS272 [373, 374]) ?_
            have hfa275 := tL_len (d := T_)
            refine VE.tree [9] (by kernel_rfl) ⟨?_, trivial⟩
            refine VI.call 373 rfl rfl (.inl rfl) fnOk43 rfl rfl (fun _ _ h => Inv.sbK [129, 127, 128, 0] h) (fun W hW => coll_ok W (hW.at (i := 373) rfl) f272_0 bd) (fun v276 m276 hv276 => ?_)
            obtain ⟨s276_0, rfl, f276_0⟩ := hv276
            obtain ⟨A276_0, c276_0, eq276_0, l276_0, k276_0⟩ := f276_0.slice
            subst eq276_0
            simp only [maxLen] at k276_0
            refine VE.nil (by kernel_rfl) rfl ?_ rfl
            refine VO.store (k := 1) (c' := [Value.slice A271_0 ((tL (sOld l_)).length) (c271_0)]) 366 rfl rfl (.inr ⟨tk34, rfl⟩) rfl rfl rfl rfl rfl ?_
            refine VO.store (k := 1) (c' := [Value.slice A276_0 ((tL T_).length) (c276_0)]) 330 rfl rfl (.inr ⟨tk34, rfl⟩) rfl rfl rfl rfl rfl ?_
            refine VO.clsP 377 [129, 374, 127, 128] rfl (fun hg277 => (mkP_storeStore (gt_, T_) (gu_, ((gd_, D_), br_, l_)) r_ hg277 w272_0 q25_1 q25_2)) (fun mc277 ho277 => ?_)
            refine VO.kp [377, 373, 368, 366, 330, 0] [(377, mc277), (373, m276), (368, m271), (366, mone g265 (.cells [Value.slice A271_0 ((tL (sOld l_)).length) (c271_0)].toArray 34 (0, 0))), (330, mone g229 (.cells [Value.slice A276_0 ((tL T_).length) (c276_0)].toArray 34 (0, 0))), (0, mout (wm W) (m0))] ?_
            refine VO.k5 0 2 3 4 6 ?_
            exact outN (hJ2 ⟨g265, g229, (tL (sOld l_)), A271_0, c271_0, m271, (tL T_), A276_0, c276_0, m276, mc277⟩ _ _ ⟨by rfl, by rfl, (Ow.ownl f271_0 rfl mnil), (Ow.ownl f276_0 rfl mnil), ho277⟩ ⟨⟨rfl, rfl, rfl, rfl, trivial⟩, fun _ h => Inv.sub (Inv.num (Inv.num (Inv.num (Inv.num (Inv.num h 368 111 rfl) 373 116 rfl) 377 124 rfl) 330 123 rfl) 366 121 rfl) [124, 123, 121, 116, 111, 0]⟩)
      · -- FA1
        refine VI.alloc 379 rfl rfl tz34 (fun _ _ h => Inv.sbK [129, 127, 128, 0] h) (fun g278 => ?_)
        refine VE.tree [1, 11] (by kernel_rfl) ⟨?_, ?_, trivial⟩
        · -- FA10
          refine VI.callN 380 rfl rfl (.inl rfl) fnOk95 rfl (fun _ h => Inv.sbK [129, 127, 128, 0] h) (fun W hW => sOlderR_ok W (show Rd (.ptr TstoreStore) _ _ (g0, ((gt_, T_), (gu_, ((gd_, D_), br_, l_)), r_)) from ⟨rfl, _, _, (hW.at (i := 129) rfl) _ _ (mone_self _ _), (mk_storeStore (m := wm W) (gt_, T_) (gu_, ((gd_, D_), br_, l_)) r_ (Ow.rd q25_0 (hW.at (i := 126) rfl)) (Ow.rd q25_1 (hW.at (i := 127) rfl)) (Ow.rd q25_2 (hW.at (i := 128) rfl)))⟩) (by assumption)) (fun v280 m280 hv280 => ?_)
          try dsimp only at hv280
          obtain ⟨s280_0, rfl, f280_0⟩ := hv280
          have hfa281 := (sOld_len (show okU l_ by assumption))
          refine VE.tree [2, 11] (by kernel_rfl) ⟨?_, ?_, trivial⟩
          · -- FA100
            refine VI.call 380 rfl rfl (.inl rfl) fnOk44 rfl rfl (fun _ _ h => Inv.sbK [129, 127, 128, 0] h) (fun W hW => tAll_ok W (hW.at (i := 380) rfl) f280_0 bd) (fun v282 m282 hv282 => ?_)
            obtain ⟨s282_0, p282_0, p282_1, rfl, hS282, f282_0, w282_0⟩ := hv282
            refine VE.inv _ (fun _ h => h.parts (i := 380) rfl hS282 [383, 384]) ?_
            have hfa285 := tL_len (d := (sOld l_))
            refine VE.inv [(383, p282_0), (379, mone g278 (.cells [Value.slice none (0) (0)].toArray 34 (0, 0))), (129, mone g0 (.cells [Value.pointer (some ⟨gt_, 0, none⟩), Value.pointer (some ⟨gu_, 0, none⟩), Value.slice q25_A2 (r_.length) (q25_c2)].toArray q25_E (0, 0))), (126, q25_n0), (127, q25_n1), (128, q25_n2), (0, mout (wm W) (m0))] (fun _ h => Inv.sbK [383, 379, 129, 126, 127, 128, 0] h) ?_
            refine VE.tree [3, 11] (by kernel_rfl) ⟨?_, ?_, trivial⟩
            · -- FA1000
              refine VI.call 383 rfl rfl (.inl rfl) fnOk43 rfl rfl (fun _ _ h => Inv.sbK [129, 127, 128, 0] h) (fun W hW => coll_ok W (hW.at (i := 383) rfl) f282_0 bd) (fun v286 m286 hv286 => ?_)
              obtain ⟨s286_0, rfl, f286_0⟩ := hv286
              obtain ⟨A286_0, c286_0, eq286_0, l286_0, k286_0⟩ := f286_0.slice
              subst eq286_0
              simp only [maxLen] at k286_0
              refine VE.tree [8, 11] (by kernel_rfl) ⟨?_, ?_, trivial⟩
              · -- FA10000
                refine VI.call 126 rfl rfl (.inl rfl) fnOk44 rfl rfl (fun _ _ h => Inv.sbK [129, 127, 128, 0] h) (fun W hW => tAll_ok W (hW.at (i := 126) rfl) q25_0 bd) (fun v287 m287 hv287 => ?_)
                obtain ⟨s287_0, p287_0, p287_1, rfl, hS287, f287_0, w287_0⟩ := hv287
                refine VE.inv _ (fun _ h => h.parts (i := 126) rfl hS287 [388, 389]) ?_
                have hfa290 := tL_len (d := T_)
                refine VE.tree [9, 11] (by kernel_rfl) ⟨?_, ?_, trivial⟩
                · -- FA100000
                  refine VI.call 388 rfl rfl (.inl rfl) fnOk43 rfl rfl (fun _ _ h => Inv.sbK [129, 127, 128, 0] h) (fun W hW => coll_ok W (hW.at (i := 388) rfl) f287_0 bd) (fun v291 m291 hv291 => ?_)
                  obtain ⟨s291_0, rfl, f291_0⟩ := hv291
                  obtain ⟨A291_0, c291_0, eq291_0, l291_0, k291_0⟩ := f291_0.slice
                  subst eq291_0
                  simp only [maxLen] at k291_0
                  refine VE.tree [11] (by kernel_rfl) ⟨?_, trivial⟩
                  refine VI.alloc 393 rfl rfl tz34 (fun _ _ h => Inv.sbK [129, 127, 128, 0] h) (fun g292 => ?_)
                  refine VE.nil (by kernel_rfl) rfl ?_ rfl
                  refine VO.store (k := 1) (c' := [Value.slice A286_0 ((tL (sOld l_)).length) (c286_0)]) 379 rfl rfl (.inr ⟨tk34, rfl⟩) rfl rfl rfl rfl rfl ?_
                  refine VO.store (k := 1) (c' := [Value.slice A291_0 ((tL T_).length) (c291_0)]) 393 rfl rfl (.inr ⟨tk34, rfl⟩) rfl rfl rfl rfl rfl ?_
                  refine VO.clsP 394 [129, 389, 127, 128] rfl (fun hg294 => (mkP_storeStore (gt_, T_) (gu_, ((gd_, D_), br_, l_)) r_ hg294 w287_0 q25_1 q25_2)) (fun mc294 ho294 => ?_)
                  refine VO.kp [394, 393, 388, 383, 379, 0] [(394, mc294), (393, mone g292 (.cells [Value.slice A291_0 ((tL T_).length) (c291_0)].toArray 34 (0, 0))), (388, m291), (383, m286), (379, mone g278 (.cells [Value.slice A286_0 ((tL (sOld l_)).length) (c286_0)].toArray 34 (0, 0))), (0, mout (wm W) (m0))] ?_
                  refine VO.k5 0 2 3 4 6 ?_
                  exact outN (hJ2 ⟨g278, g292, (tL (sOld l_)), A286_0, c286_0, m286, (tL T_), A291_0, c291_0, m291, mc294⟩ _ _ ⟨by rfl, by rfl, (Ow.ownl f286_0 rfl mnil), (Ow.ownl f291_0 rfl mnil), ho294⟩ ⟨⟨rfl, rfl, rfl, rfl, trivial⟩, fun _ h => Inv.sub (Inv.num (Inv.num (Inv.num (Inv.num (Inv.num h 383 111 rfl) 388 116 rfl) 394 124 rfl) 393 123 rfl) 379 121 rfl) [124, 123, 121, 116, 111, 0]⟩)
                · -- FA100001
                  refine VI.alloc 396 rfl rfl tz34 (fun _ _ h => Inv.sbK [129, 127, 128, 0] h) (fun g295 => ?_)
                  refine VE.tree [9] (by kernel_rfl) ⟨?_, trivial⟩
                  refine VI.call 388 rfl rfl (.inl rfl) fnOk43 rfl rfl (fun _ _ h => Inv.sbK [129, 127, 128, 0] h) (fun W hW => coll_ok W (hW.at (i := 388) rfl) f287_0 bd) (fun v297 m297 hv297 => ?_)
                  obtain ⟨s297_0, rfl, f297_0⟩ := hv297
                  obtain ⟨A297_0, c297_0, eq297_0, l297_0, k297_0⟩ := f297_0.slice
                  subst eq297_0
                  simp only [maxLen] at k297_0
                  refine VE.nil (by kernel_rfl) rfl ?_ rfl
                  refine VO.store (k := 1) (c' := [Value.slice A286_0 ((tL (sOld l_)).length) (c286_0)]) 379 rfl rfl (.inr ⟨tk34, rfl⟩) rfl rfl rfl rfl rfl ?_
                  refine VO.store (k := 1) (c' := [Value.slice A297_0 ((tL T_).length) (c297_0)]) 396 rfl rfl (.inr ⟨tk34, rfl⟩) rfl rfl rfl rfl rfl ?_
                  refine VO.clsP 398 [129, 389, 127, 128] rfl (fun hg298 => (mkP_storeStore (gt_, T_) (gu_, ((gd_, D_), br_, l_)) r_ hg298 w287_0 q25_1 q25_2)) (fun mc298 ho298 => ?_)
                  refine VO.kp [398, 388, 396, 383, 379, 0] [(398, mc298), (388, m297), (396, mone g295 (.cells [Value.slice A297_0 ((tL T_).length) (c297_0)].toArray 34 (0, 0))), (383, m286), (379, mone g278 (.cells [Value.slice A286_0 ((tL (sOld l_)).length) (c286_0)].toArray 34 (0, 0))), (0, mout (wm W) (m0))] ?_
                  refine VO.k5 0 2 3 4 6 ?_
                  exact outN (hJ2 ⟨g278, g295, (tL (sOld l_)), A286_0, c286_0, m286, (tL T_), A297_0, c297_0, m297, mc298⟩ _ _ ⟨by rfl, by rfl, (Ow.ownl f286_0 rfl mnil), (Ow.ownl f297_0 rfl mnil), ho298⟩ ⟨⟨rfl, rfl, rfl, rfl, trivial⟩, fun _ h => Inv.sub (Inv.num (Inv.num (Inv.num (Inv.num (Inv.num h 383 111 rfl) 388 116 rfl) 398 124 rfl) 396 123 rfl) 379 121 rfl) [124, 123, 121, 116, 111, 0]⟩)
              · -- FA10001
                refine VI.alloc 400 rfl rfl tz34 (fun _ _ h => Inv.sbK [129, 127, 128, 0] h) (fun g299 => ?_)
                refine VE.tree [8] (by kernel_rfl) ⟨?_, trivial⟩
                refine VI.call 126 rfl rfl (.inl rfl) fnOk44 rfl rfl (fun _ _ h => Inv.sbK [129, 127, 128, 0] h) (fun W hW => tAll_ok W (hW.at (i := 126) rfl) q25_0 bd) (fun v301 m301 hv301 => ?_)
                obtain ⟨s301_0, p301_0, p301_1, rfl, hS301, f301_0, w301_0⟩ := hv301
                refine VE.inv _ (fun _ h => h.parts (i := 126) rfl hS301 [402, 403]) ?_
                have hfa304 := tL_len (d := T_)
                refine VE.tree [9] (by kernel_rfl) ⟨?_, trivial⟩
                refine VI.call 402 rfl rfl (.inl rfl) fnOk43 rfl rfl (fun _ _ h => Inv.sbK [129, 127, 128, 0] h) (fun W hW => coll_ok W (hW.at (i := 402) rfl) f301_0 bd) (fun v305 m305 hv305 => ?_)
                obtain ⟨s305_0, rfl, f305_0⟩ := hv305
                obtain ⟨A305_0, c305_0, eq305_0, l305_0, k305_0⟩ := f305_0.slice
                subst eq305_0
                simp only [maxLen] at k305_0
                refine VE.nil (by kernel_rfl) rfl ?_ rfl
                refine VO.store (k := 1) (c' := [Value.slice A286_0 ((tL (sOld l_)).length) (c286_0)]) 379 rfl rfl (.inr ⟨tk34, rfl⟩) rfl rfl rfl rfl rfl ?_
                refine VO.store (k := 1) (c' := [Value.slice A305_0 ((tL T_).length) (c305_0)]) 400 rfl rfl (.inr ⟨tk34, rfl⟩) rfl rfl rfl rfl rfl ?_
                refine VO.clsP 406 [129, 403, 127, 128] rfl (fun hg306 => (mkP_storeStore (gt_, T_) (gu_, ((gd_, D_), br_, l_)) r_ hg306 w301_0 q25_1 q25_2)) (fun mc306 ho306 => ?_)
                refine VO.kp [406, 402, 400, 383, 379, 0] [(406, mc306), (402, m305), (400, mone g299 (.cells [Value.slice A305_0 ((tL T_).length) (c305_0)].toArray 34 (0, 0))), (383, m286), (379, mone g278 (.cells [Value.slice A286_0 ((tL (sOld l_)).length) (c286_0)].toArray 34 (0, 0))), (0, mout (wm W) (m0))] ?_
                refine VO.k5 0 2 3 4 6 ?_
                exact outN (hJ2 ⟨g278, g299, (tL (sOld l_)), A286_0, c286_0, m286, (tL T_), A305_0, c305_0, m305, mc306⟩ _ _ ⟨by rfl, by rfl, (Ow.ownl f286_0 rfl mnil), (Ow.ownl f305_0 rfl mnil), ho306⟩ ⟨⟨rfl, rfl, rfl, rfl, trivial⟩, fun _ h => Inv.sub (Inv.num (Inv.num (Inv.num (Inv.num (Inv.num h 383 111 rfl) 402 116 rfl) 406 124 rfl) 400 123 rfl) 379 121 rfl) [124, 123, 121, 116, 111, 0]⟩)
            · -- FA1001
              refine VI.alloc 408 rfl rfl tz34 (fun _ _ h => Inv.sbK [129, 127, 128, 0] h) (fun g307 => ?_)
              refine VE.tree [3] (by kernel_rfl) ⟨?_, trivial⟩
              refine VI.call 383 rfl rfl (.inl rfl) fnOk43 rfl rfl (fun _ _ h => Inv.sbK [129, 127, 128, 0] h) (fun W hW => coll_ok W (hW.at (i := 383) rfl) f282_0 bd) (fun v309 m309 hv309 => ?_)
              obtain ⟨s309_0, rfl, f309_0⟩ := hv309
              obtain ⟨A309_0, c309_0, eq309_0, l309_0, k309_0⟩ := f309_0.slice
              subst eq309_0
              simp only [maxLen] at k309_0
              refine VE.tree [8] (by kernel_rfl) ⟨?_, trivial⟩
              refine VI.call 126 rfl rfl (.inl rfl) fnOk44 rfl rfl (fun _ _ h => Inv.sbK [129, 127, 128, 0] h) (fun W hW => tAll_ok W (hW.at (i := 126) rfl) q25_0 bd) (fun v310 m310 hv310 => ?_)
              obtain ⟨s310_0, p310_0, p310_1, rfl, hS310, f310_0, w310_0⟩ := hv310
              refine VE.inv _ (fun _ h => h.parts (i := 126) rfl hS310 [411, 412]) ?_
              have hfa313 := tL_len (d := T_)
              refine VE.tree [9] (by kernel_rfl) ⟨?_, trivial⟩
              refine VI.call 411 rfl rfl (.inl rfl) fnOk43 rfl rfl (fun _ _ h => Inv.sbK [129, 127, 128, 0] h) (fun W hW => coll_ok W (hW.at (i := 411) rfl) f310_0 bd) (fun v314 m314 hv314 => ?_)
              obtain ⟨s314_0, rfl, f314_0⟩ := hv314
              obtain ⟨A314_0, c314_0, eq314_0, l314_0, k314_0⟩ := f314_0.slice
              subst eq314_0
              simp only [maxLen] at k314_0
              refine VE.nil (by kernel_rfl) rfl ?_ rfl
              refine VO.store (k := 1) (c' := [Value.slice A309_0 ((tL (sOld l_)).length) (c309_0)]) 379 rfl rfl (.inr ⟨tk34, rfl⟩) rfl rfl rfl rfl rfl ?_
              refine VO.store (k := 1) (c' := [Value.slice A314_0 ((tL T_).length) (c314_0)]) 408 rfl rfl (.inr ⟨tk34, rfl⟩) rfl rfl rfl rfl rfl ?_
              refine VO.clsP 415 [129, 412, 127, 128] rfl (fun hg315 => (mkP_storeStore (gt_, T_) (gu_, ((gd_, D_), br_, l_)) r_ hg315 w310_0 q25_1 q25_2)) (fun mc315 ho315 => ?_)
              refine VO.kp [415, 411, 383, 408, 379, 0] [(415, mc315), (411, m314), (383, m309), (408, mone g307 (.cells [Value.slice A314_0 ((tL T_).length) (c314_0)].toArray 34 (0, 0))), (379, mone g278 (.cells [Value.slice A309_0 ((tL (sOld l_)).length) (c309_0)].toArray 34 (0, 0))), (0, mout (wm W) (m0))] ?_
              refine VO.k5 0 2 3 4 6 ?_
              exact outN (hJ2 ⟨g278, g307, (tL (sOld l_)), A309_0, c309_0, m309, (tL T_), A314_0, c314_0, m314, mc315⟩ _ _ ⟨by rfl, by rfl, (Ow.ownl f309_0 rfl mnil), (Ow.ownl f314_0 rfl mnil), ho315⟩ ⟨⟨rfl, rfl, rfl, rfl, trivial⟩, fun _ h => Inv.sub (Inv.num (Inv.num (Inv.num (Inv.num (Inv.num h 383 111 rfl) 411 116 rfl) 415 124 rfl) 408 123 rfl) 379 121 rfl) [124, 123, 121, 116, 111, 0]⟩)
          · -- FA101
            refine VI.alloc 417 rfl rfl tz34 (fun _ _ h => Inv.sbK [129, 127, 128, 0] h) (fun g316 => ?_)
            refine VE.tree [2] (by kernel_rfl) ⟨?_, trivial⟩
            refine VI.call 380 rfl rfl (.inl rfl) fnOk44 rfl rfl (fun _ _ h => Inv.sbK [129, 127, 128, 0] h) (fun W hW => tAll_ok W (hW.at (i := 380) rfl) f280_0 bd) (fun v318 m318 hv318 => ?_)
            obtain ⟨s318_0, p318_0, p318_1, rfl, hS318, f318_0, w318_0⟩ := hv318
            refine VE.inv _ (fun _ h => h.parts (i := 380) rfl hS318 [419, 420]) ?_
            have hfa321 := tL_len (d := (sOld l_))
            refine VE.inv [(419, p318_0), (417, mone g316 (.cells [Value.slice none (0) (0)].toArray 34 (0, 0))), (379, mone g278 (.cells [Value.slice none (0) (0)].toArray 34 (0, 0))), (129, mone g0 (.cells [Value.pointer (some ⟨gt_, 0, none⟩), Value.pointer (some ⟨gu_, 0, none⟩), Value.slice q25_A2 (r_.length) (q25_c2)].toArray q25_E (0, 0))), (126, q25_n0), (127, q25_n1), (128, q25_n2), (0, mout (wm W) (m0))] (fun _ h => Inv.sbK [419, 417, 379, 129, 126, 127, 128, 0] h) ?_
            refine VE.tree [3] (by kernel_rfl) ⟨?_, trivial⟩
            refine VI.call 419 rfl rfl (.inl rfl) fnOk43 rfl rfl (fun _ _ h => Inv.sbK [129, 127, 128, 0] h) (fun W hW => coll_ok W (hW.at (i := 419) rfl) f318_0 bd) (fun v322 m322 hv322 => ?_)
            obtain ⟨s322_0, rfl, f322_0⟩ := hv322
            obtain ⟨A322_0, c322_0, eq322_0, l322_0, k322_0⟩ := f322_0.slice
            subst eq322_0
            simp only [maxLen] at k322_0
            refine VE.tree [8] (by kernel_rfl) ⟨?_, trivial⟩
            refine VI.call 126 rfl rfl (.inl rfl) fnOk44 rfl rfl (fun _ _ h => Inv.sbK [129, 127, 128, 0] h) (fun W hW => tAll_ok W (hW.at (i := 126) rfl) q25_0 bd) (fun v323 m323 hv323 => ?_)
            obtain ⟨s323_0, p323_0, p323_1, rfl, hS323, f323_0, w323_0⟩ := hv323
            refine VE.inv _ (fun _ h => h.parts (i := 126) rfl hS323 [424, 425]) ?_
            have hfa326 := tL_len (d := T_)
            refine VE.tree [9] (by kernel_rfl) ⟨?_, trivial⟩
            refine VI.call 424 rfl rfl (.inl rfl) fnOk43 rfl rfl (fun _ _ h => Inv.sbK [129, 127, 128, 0] h) (fun W hW => coll_ok W (hW.at (i := 424) rfl) f323_0 bd) (fun v327 m327 hv327 => ?_)
            obtain ⟨s327_0, rfl, f327_0⟩ := hv327
            obtain ⟨A327_0, c327_0, eq327_0, l327_0, k327_0⟩ := f327_0.slice
            subst eq327_0
            simp only [maxLen] at k327_0
            refine VE.nil (by kernel_rfl) rfl ?_ rfl
            refine VO.store (k := 1) (c' := [Value.slice A322_0 ((tL (sOld l_)).length) (c322_0)]) 379 rfl rfl (.inr ⟨tk34, rfl⟩) rfl rfl rfl rfl rfl ?_
            refine VO.store (k := 1) (c' := [Value.slice A327_0 ((tL T_).length) (c327_0)]) 417 rfl rfl (.inr ⟨tk34, rfl⟩) rfl rfl rfl rfl rfl ?_
            refine VO.clsP 428 [129, 425, 127, 128] rfl (fun hg328 => (mkP_storeStore (gt_, T_) (gu_, ((gd_, D_), br_, l_)) r_ hg328 w323_0 q25_1 q25_2)) (fun mc328 ho328 => ?_)
            refine VO.kp [428, 424, 419, 417, 379, 0] [(428, mc328), (424, m327), (419, m322), (417, mone g316 (.cells [Value.slice A327_0 ((tL T_).length) (c327_0)].toArray 34 (0, 0))), (379, mone g278 (.cells [Value.slice A322_0 ((tL (sOld l_)).length) (c322_0)].toArray 34 (0, 0))), (0, mout (wm W) (m0))] ?_
            refine VO.k5 0 2 3 4 6 ?_
            exact outN (hJ2 ⟨g278, g316, (tL (sOld l_)), A322_0, c322_0, m322, (tL T_), A327_0, c327_0, m327, mc328⟩ _ _ ⟨by rfl, by rfl, (Ow.ownl f322_0 rfl mnil), (Ow.ownl f327_0 rfl mnil), ho328⟩ ⟨⟨rfl, rfl, rfl, rfl, trivial⟩, fun _ h => Inv.sub (Inv.num (Inv.num (Inv.num (Inv.num (Inv.num h 419 111 rfl) 424 116 rfl) 428 124 rfl) 417 123 rfl) 379 121 rfl) [124, 123, 121, 116, 111, 0]⟩)
        · -- FA11
          refine VI.alloc 430 rfl rfl tz34 (fun _ _ h => Inv.sbK [129, 127, 128, 0] h) (fun g329 => ?_)
          refine VE.tree [1] (by kernel_rfl) ⟨?_, trivial⟩
          refine VI.callN 431 rfl rfl (.inl rfl) fnOk95 rfl (fun _ h => Inv.sbK [129, 127, 128, 0] h) (fun W hW => sOlderR_ok W (show Rd (.ptr TstoreStore) _ _ (g0, ((gt_, T_), (gu_, ((gd_, D_), br_, l_)), r_)) from ⟨rfl, _, _, (hW.at (i := 129) rfl) _ _ (mone_self _ _), (mk_storeStore (m := wm W) (gt_, T_) (gu_, ((gd_, D_), br_, l_)) r_ (Ow.rd q25_0 (hW.at (i := 126) rfl)) (Ow.rd q25_1 (hW.at (i := 127) rfl)) (Ow.rd q25_2 (hW.at (i := 128) rfl)))⟩) (by assumption)) (fun v331 m331 hv331 => ?_)
          try dsimp only at hv331
          obtain ⟨s331_0, rfl, f331_0⟩ := hv331
          have hfa332 := (sOld_len (show okU l_ by assumption))
          refine VE.tree [2] (by kernel_rfl) ⟨?_, trivial⟩
          refine VI.call 431 rfl rfl (.inl rfl) fnOk44 rfl rfl (fun _ _ h => Inv.sbK [129, 127, 128, 0] h) (fun W hW => tAll_ok W (hW.at (i := 431) rfl) f331_0 bd) (fun v333 m333 hv333 => ?_)
          obtain ⟨s333_0, p333_0, p333_1, rfl, hS333, f333_0, w333_0⟩ := hv333
          refine VE.inv _ (fun _ h => h.parts (i := 431) rfl hS333 [434, 435]) ?_
          have hfa336 := tL_len (d := (sOld l_))
          refine VE.inv [(434, p333_0), (430, mone g329 (.cells [Value.slice none (0) (0)].toArray 34 (0, 0))), (379, mone g278 (.cells [Value.slice none (0) (0)].toArray 34 (0, 0))), (129, mone g0 (.cells [Value.pointer (some ⟨gt_, 0, none⟩), Value.pointer (some ⟨gu_, 0, none⟩), Value.slice q25_A2 (r_.length) (q25_c2)].toArray q25_E (0, 0))), (126, q25_n0), (127, q25_n1), (128, q25_n2), (0, mout (wm W) (m0))] (fun _ h => Inv.sbK [434, 430, 379, 129, 126, 127, 128, 0] h) ?_
          refine VE.tree [3] (by kernel_rfl) ⟨?_, trivial⟩
          refine VI.call 434 rfl rfl (.inl rfl) fnOk43 rfl rfl (fun _ _ h => Inv.sbK [129, 127, 128, 0] h) (fun W hW => coll_ok W (hW.at (i := 434) rfl) f333_0 bd) (fun v337 m337 hv337 => ?_)
          obtain ⟨s337_0, rfl, f337_0⟩ := hv337
          obtain ⟨A337_0, c337_0, eq337_0, l337_0, k337_0⟩ := f337_0.slice
          subst eq337_0
          simp only [maxLen] at k337_0
          refine VE.tree [8] (by kernel_rfl) ⟨?_, trivial⟩
          refine VI.call 126 rfl rfl (.inl rfl) fnOk44 rfl rfl (fun _ _ h => Inv.sbK [129, 127, 128, 0] h) (fun W hW => tAll_ok W (hW.at (i := 126) rfl) q25_0 bd) (fun v338 m338 hv338 => ?_)
          obtain ⟨s338_0, p338_0, p338_1, rfl, hS338, f338_0, w338_0⟩ := hv338
          refine VE.inv _ (fun _ h => h.parts (i := 126) rfl hS338 [439, 440]) ?_
          have hfa341 := tL_len (d := T_)
          refine VE.tree [9] (by kernel_rfl) ⟨?_, trivial⟩
          refine VI.call 439 rfl rfl (.inl rfl) fnOk43 rfl rfl (fun _ _ h => Inv.sbK [129, 127, 128, 0] h) (fun W hW => coll_ok W (hW.at (i := 439) rfl) f338_0 bd) (fun v342 m342 hv342 => ?_)
          obtain ⟨s342_0, rfl, f342_0⟩ := hv342
          obtain ⟨A342_0, c342_0, eq342_0, l342_0, k342_0⟩ := f342_0.slice
          subst eq342_0
          simp only [maxLen] at k342_0
          refine VE.nil (by kernel_rfl) rfl ?_ rfl
          refine VO.store (k := 1) (c' := [Value.slice A337_0 ((tL (sOld l_)).length) (c337_0)]) 379 rfl rfl (.inr ⟨tk34, rfl⟩) rfl rfl rfl rfl rfl ?_
          refine VO.store (k := 1) (c' := [Value.slice A342_0 ((tL T_).length) (c342_0)]) 430 rfl rfl (.inr ⟨tk34, rfl⟩) rfl rfl rfl rfl rfl ?_
          refine VO.clsP 443 [129, 440, 127, 128] rfl (fun hg343 => (mkP_storeStore (gt_, T_) (gu_, ((gd_, D_), br_, l_)) r_ hg343 w338_0 q25_1 q25_2)) (fun mc343 ho343 => ?_)
          refine VO.kp [443, 439, 434, 430, 379, 0] [(443, mc343), (439, m342), (434, m337), (430, mone g329 (.cells [Value.slice A342_0 ((tL T_).length) (c342_0)].toArray 34 (0, 0))), (379, mone g278 (.cells [Value.slice A337_0 ((tL (sOld l_)).length) (c337_0)].toArray 34 (0, 0))), (0, mout (wm W) (m0))] ?_
          refine VO.k5 0 2 3 4 6 ?_
          exact outN (hJ2 ⟨g278, g329, (tL (sOld l_)), A337_0, c337_0, m337, (tL T_), A342_0, c342_0, m342, mc343⟩ _ _ ⟨by rfl, by rfl, (Ow.ownl f337_0 rfl mnil), (Ow.ownl f342_0 rfl mnil), ho343⟩ ⟨⟨rfl, rfl, rfl, rfl, trivial⟩, fun _ h => Inv.sub (Inv.num (Inv.num (Inv.num (Inv.num (Inv.num h 434 111 rfl) 439 116 rfl) 443 124 rfl) 430 123 rfl) 379 121 rfl) [124, 123, 121, 116, 111, 0]⟩)
      · -- FA2
        refine VI.alloc 445 rfl rfl tz34 (fun _ _ h => Inv.sbK [129, 127, 128, 0] h) (fun g344 => ?_)
        refine VE.tree [1, 10] (by kernel_rfl) ⟨?_, ?_, trivial⟩
        · -- FA20
          refine VI.callN 446 rfl rfl (.inl rfl) fnOk95 rfl (fun _ h => Inv.sbK [129, 127, 128, 0] h) (fun W hW => sOlderR_ok W (show Rd (.ptr TstoreStore) _ _ (g0, ((gt_, T_), (gu_, ((gd_, D_), br_, l_)), r_)) from ⟨rfl, _, _, (hW.at (i := 129) rfl) _ _ (mone_self _ _), (mk_storeStore (m := wm W) (gt_, T_) (gu_, ((gd_, D_), br_, l_)) r_ (Ow.rd q25_0 (hW.at (i := 126) rfl)) (Ow.rd q25_1 (hW.at (i := 127) rfl)) (Ow.rd q25_2 (hW.at (i := 128) rfl)))⟩) (by assumption)) (fun v346 m346 hv346 => ?_)
          try dsimp only at hv346
          obtain ⟨s346_0, rfl, f346_0⟩ := hv346
          have hfa347 := (sOld_len (show okU l_ by assumption))
          refine VE.tree [2, 10] (by kernel_rfl) ⟨?_, ?_, trivial⟩
          · -- FA200
            refine VI.call 446 rfl rfl (.inl rfl) fnOk44 rfl rfl (fun _ _ h => Inv.sbK [129, 127, 128, 0] h) (fun W hW => tAll_ok W (hW.at (i := 446) rfl) f346_0 bd) (fun v348 m348 hv348 => ?_)
            obtain ⟨s348_0, p348_0, p348_1, rfl, hS348, f348_0, w348_0⟩ := hv348
            refine VE.inv _ (fun _ h => h.parts (i := 446) rfl hS348 [449, 450]) ?_
            have hfa351 := tL_len (d := (sOld l_))
            refine VE.inv [(449, p348_0), (445, mone g344 (.cells [Value.slice none (0) (0)].toArray 34 (0, 0))), (129, mone g0 (.cells [Value.pointer (some ⟨gt_, 0, none⟩), Value.pointer (some ⟨gu_, 0, none⟩), Value.slice q25_A2 (r_.length) (q25_c2)].toArray q25_E (0, 0))), (126, q25_n0), (127, q25_n1), (128, q25_n2), (0, mout (wm W) (m0))] (fun _ h => Inv.sbK [449, 445, 129, 126, 127, 128, 0] h) ?_
            refine VE.tree [3, 10] (by kernel_rfl) ⟨?_, ?_, trivial⟩
            · -- FA2000
              refine VI.call 449 rfl rfl (.inl rfl) fnOk43 rfl rfl (fun _ _ h => Inv.sbK [129, 127, 128, 0] h) (fun W hW => coll_ok W (hW.at (i := 449) rfl) f348_0 bd) (fun v352 m352 hv352 => ?_)
              obtain ⟨s352_0, rfl, f352_0⟩ := hv352
              obtain ⟨A352_0, c352_0, eq352_0, l352_0, k352_0⟩ := f352_0.slice
              subst eq352_0
              simp only [maxLen] at k352_0
              refine VE.tree [8, 10] (by kernel_rfl) ⟨?_, ?_, trivial⟩
              · -- FA20000
                refine VI.call 126 rfl rfl (.inl rfl) fnOk44 rfl rfl (fun _ _ h => Inv.sbK [129, 127, 128, 0] h) (fun W hW => tAll_ok W (hW.at (i := 126) rfl) q25_0 bd) (fun v353 m353 hv353 => ?_)
                obtain ⟨s353_0, p353_0, p353_1, rfl, hS353, f353_0, w353_0⟩ := hv353
                refine VE.inv _ (fun _ h => h.parts (i := 126) rfl hS353 [454, 455]) ?_
                have hfa356 := tL_len (d := T_)
                refine VE.tree [9, 10] (by kernel_rfl) ⟨?_, ?_, trivial⟩
                · -- FA200000
                  refine VI.call 454 rfl rfl (.inl rfl) fnOk43 rfl rfl (fun _ _ h => Inv.sbK [129, 127, 128, 0] h) (fun W hW => coll_ok W (hW.at (i := 454) rfl) f353_0 bd) (fun v357 m357 hv357 => ?_)
                  obtain ⟨s357_0, rfl, f357_0⟩ := hv357
                  obtain ⟨A357_0, c357_0, eq357_0, l357_0, k357_0⟩ := f357_0.slice
                  subst eq357_0
                  simp only [maxLen] at k357_0
                  refine VE.tree [10] (by kernel_rfl) ⟨?_, trivial⟩
                  refine VI.alloc 459 rfl rfl tz34 (fun _ _ h => Inv.sbK [129, 127, 128, 0] h) (fun g358 => ?_)
                  refine VE.nil (by kernel_rfl) rfl ?_ rfl
                  refine VO.store (k := 1) (c' := [Value.slice A352_0 ((tL (sOld l_)).length) (c352_0)]) 459 rfl rfl (.inr ⟨tk34, rfl⟩) rfl rfl rfl rfl rfl ?_
                  refine VO.store (k := 1) (c' := [Value.slice A357_0 ((tL T_).length) (c357_0)]) 445 rfl rfl (.inr ⟨tk34, rfl⟩) rfl rfl rfl rfl rfl ?_
                  refine VO.clsP 460 [129, 455, 127, 128] rfl (fun hg360 => (mkP_storeStore (gt_, T_) (gu_, ((gd_, D_), br_, l_)) r_ hg360 w353_0 q25_1 q25_2)) (fun mc360 ho360 => ?_)
                  refine VO.kp [460, 459, 454, 449, 445, 0] [(460, mc360), (459, mone g358 (.cells [Value.slice A352_0 ((tL (sOld l_)).length) (c352_0)].toArray 34 (0, 0))), (454, m357), (449, m352), (445, mone g344 (.cells [Value.slice A357_0 ((tL T_).length) (c357_0)].toArray 34 (0, 0))), (0, mout (wm W) (m0))] ?_
                  refine VO.k5 0 2 3 4 6 ?_
                  exact outN (hJ2 ⟨g358, g344, (tL (sOld l_)), A352_0, c352_0, m352, (tL T_), A357_0, c357_0, m357, mc360⟩ _ _ ⟨by rfl, by rfl, (Ow.ownl f352_0 rfl mnil), (Ow.ownl f357_0 rfl mnil), ho360⟩ ⟨⟨rfl, rfl, rfl, rfl, trivial⟩, fun _ h => Inv.sub (Inv.num (Inv.num (Inv.num (Inv.num (Inv.num h 449 111 rfl) 454 116 rfl) 460 124 rfl) 445 123 rfl) 459 121 rfl) [124, 123, 121, 116, 111, 0]⟩)
                · -- FA200001
                  refine VI.alloc 462 rfl rfl tz34 (fun _ _ h => Inv.sbK [129, 127, 128, 0] h) (fun g361 => ?_)
                  refine VE.tree [9] (by kernel_rfl) ⟨?_, trivial⟩
                  refine VI.call 454 rfl rfl (.inl rfl) fnOk43 rfl rfl (fun _ _ h => Inv.sbK [129, 127, 128, 0] h) (fun W hW => coll_ok W (hW.at (i := 454) rfl) f353_0 bd) (fun v363 m363 hv363 => ?_)
                  obtain ⟨s363_0, rfl, f363_0⟩ := hv363
                  obtain ⟨A363_0, c363_0, eq363_0, l363_0, k363_0⟩ := f363_0.slice
                  subst eq363_0
                  simp only [maxLen] at k363_0
                  refine VE.nil (by kernel_rfl) rfl ?_ rfl
                  refine VO.store (k := 1) (c' := [Value.slice A352_0 ((tL (sOld l_)).length) (c352_0)]) 462 rfl rfl (.inr ⟨tk34, rfl⟩) rfl rfl rfl rfl rfl ?_
                  refine VO.store (k := 1) (c' := [Value.slice A363_0 ((tL T_).length) (c363_0)]) 445 rfl rfl (.inr ⟨tk34, rfl⟩) rfl rfl rfl rfl rfl ?_
                  refine VO.clsP 464 [129, 455, 127, 128] rfl (fun hg364 => (mkP_storeStore (gt_, T_) (gu_, ((gd_, D_), br_, l_)) r_ hg364 w353_0 q25_1 q25_2)) (fun mc364 ho364 => ?_)
                  refine VO.kp [464, 454, 462, 449, 445, 0] [(464, mc364), (454, m363), (462, mone g361 (.cells [Value.slice A352_0 ((tL (sOld l_)).length) (c352_0)].toArray 34 (0, 0))), (449, m352), (445, mone g344 (.cells [Value.slice A363_0 ((tL T_).length) (c363_0)].toArray 34 (0, 0))), (0, mout (wm W) (m0))] ?_
                  refine VO.k5 0 2 3 4 6 ?_
                  exact outN (hJ2 ⟨g361, g344, (tL (sOld l_)), A352_0, c352_0, m352, (tL T_), A363_0, c363_0, m363, mc364⟩ _ _ ⟨by rfl, by rfl, (Ow.ownl f352_0 rfl mnil), (Ow.ownl f363_0 rfl mnil), ho364⟩ ⟨⟨rfl, rfl, rfl, rfl, trivial⟩, fun _ h => Inv.sub (Inv.num (Inv.num (Inv.num (Inv.num (Inv.num h 449 111 rfl) 454 116 rfl) 464 124 rfl) 445 123 rfl) 462 121 rfl) [124, 123, 121, 116, 111, 0]⟩)
              · -- FA20001
                refine VI.alloc 466 rfl rfl tz34 (fun _ _ h => Inv.sbK [129, 127, 128, 0] h) (fun g365 => ?_)
                refine VE.tree [8] (by kernel_rfl) ⟨?_, trivial⟩
                refine VI.call 126 rfl rfl (.inl rfl) fnOk44 rfl rfl (fun _ _ h => Inv.sbK [129, 127, 128, 0] h) (fun W hW => tAll_ok W (hW.at (i := 126) rfl) q25_0 bd) (fun v367 m367 hv367 => ?_)
                obtain ⟨s367_0, p367_0, p367_1, rfl, hS367, f367_0, w367_0⟩ := hv367
                refine VE.inv _ (fun _ h => h.parts (i := 126) rfl hS367 [468, 469]) ?_
                have hfa370 := tL_len (d := T_)
                refine VE.tree [9] (by kernel_rfl) ⟨?_, trivial⟩
                refine VI.call 468 rfl rfl (.inl rfl) fnOk43 rfl rfl (fun _ _ h => Inv.sbK [129, 127, 128, 0] h) (fun W hW => coll_ok W (hW.at (i := 468) rfl) f367_0 bd) (fun v371 m371 hv371 => ?_)
                obtain ⟨s371_0, rfl, f371_0⟩ := hv371
                obtain ⟨A371_0, c371_0, eq371_0, l371_0, k371_0⟩ := f371_0.slice
                subst eq371_0
                simp only [maxLen] at k371_0
                refine VE.nil (by kernel_rfl) rfl ?_ rfl
                refine VO.store (k := 1) (c' := [Value.slice A352_0 ((tL (sOld l_)).length) (c352_0)]) 466 rfl rfl (.inr ⟨tk34, rfl⟩) rfl rfl rfl rfl rfl ?_
                refine VO.store (k := 1) (c' := [Value.slice A371_0 ((tL T_).length) (c371_0)]) 445 rfl rfl (.inr ⟨tk34, rfl⟩) rfl rfl rfl rfl rfl ?_
                refine VO.clsP 472 [129, 469, 127, 128] rfl (fun hg372 => (mkP_storeStore (gt_, T_) (gu_, ((gd_, D_), br_, l_)) r_ hg372 w367_0 q25_1 q25_2)) (fun mc372 ho372 => ?_)
                refine VO.kp [472, 468, 466, 449, 445, 0] [(472, mc372), (468, m371), (466, mone g365 (.cells [Value.slice A352_0 ((tL (sOld l_)).length) (c352_0)].toArray 34 (0, 0))), (449, m352), (445, mone g344 (.cells [Value.slice A371_0 ((tL T_).length) (c371_0)].toArray 34 (0, 0))), (0, mout (wm W) (m0))] ?_
                refine VO.k5 0 2 3 4 6 ?_
                exact outN (hJ2 ⟨g365, g344, (tL (sOld l_)), A352_0, c352_0, m352, (tL T_), A371_0, c371_0, m371, mc372⟩ _ _ ⟨by rfl, by rfl, (Ow.ownl f352_0 rfl mnil), (Ow.ownl f371_0 rfl mnil), ho372⟩ ⟨⟨rfl, rfl, rfl, rfl, trivial⟩, fun _ h => Inv.sub (Inv.num (Inv.num (Inv.num (Inv.num (Inv.num h 449 111 rfl) 468 116 rfl) 472 124 rfl) 445 123 rfl) 466 121 rfl) [124, 123, 121, 116, 111, 0]⟩)
            · -- FA2001
              refine VI.alloc 474 rfl rfl tz34 (fun _ _ h => Inv.sbK [129, 127, 128, 0] h) (fun g373 => ?_)
              refine VE.tree [3] (by kernel_rfl) ⟨?_, trivial⟩
              refine VI.call 449 rfl rfl (.inl rfl) fnOk43 rfl rfl (fun _ _ h => Inv.sbK [129, 127, 128, 0] h) (fun W hW => coll_ok W (hW.at (i := 449) rfl) f348_0 bd) (fun v375 m375 hv375 => ?_)
              obtain ⟨s375_0, rfl, f375_0⟩ := hv375
              obtain ⟨A375_0, c375_0, eq375_0, l375_0, k375_0⟩ := f375_0.slice
              subst eq375_0
              simp only [maxLen] at k375_0
              refine VE.tree [8] (by kernel_rfl) ⟨?_, trivial⟩
              refine VI.call 126 rfl rfl (.inl rfl) fnOk44 rfl rfl (fun _ _ h => Inv.sbK [129, 127, 128, 0] h) (fun W hW => tAll_ok W (hW.at (i := 126) rfl) q25_0 bd) (fun v376 m376 hv376 => ?_)
              obtain ⟨s376_0, p376_0, p376_1, rfl, hS376, f376_0, w376_0⟩ := hv376
              refine VE.inv _ (fun _ h => h.parts (i := 126) rfl hS376 [477, 478]) ?_
              have hfa379 := tL_len (d := T_)
              refine VE.tree [9] (by kernel_rfl) ⟨?_, trivial⟩
              refine VI.call 477 rfl rfl (.inl rfl) fnOk43 rfl rfl (fun _ _ h => Inv.sbK [129, 127, 128, 0] h) (fun W hW => coll_ok W (hW.at (i := 477) rfl) f376_0 bd) (fun v380 m380 hv380 => ?_)
              obtain ⟨s380_0, rfl, f380_0⟩ := hv380
              obtain ⟨A380_0, c380_0, eq380_0, l380_0, k380_0⟩ := f380_0.slice
              subst eq380_0
              simp only [maxLen] at k380_0
              refine VE.nil (by kernel_rfl) rfl ?_ rfl
              refine VO.store (k := 1) (c' := [Value.slice A375_0 ((tL (sOld l_)).length) (c375_0)]) 474 rfl rfl (.inr ⟨tk34, rfl⟩) rfl rfl rfl rfl rfl ?_
              refine VO.store (k := 1) (c' := [Value.slice A380_0 ((tL T_).length) (c380_0)]) 445 rfl rfl (.inr ⟨tk34, rfl⟩) rfl rfl rfl rfl rfl ?_
              refine VO.clsP 481 [129, 478, 127, 128] rfl (fun hg381 => (mkP_storeStore (gt_, T_) (gu_, ((gd_, D_), br_, l_)) r_ hg381 w376_0 q25_1 q25_2)) (fun mc381 ho381 => ?_)
              refine VO.kp [481, 477, 449, 474, 445, 0] [(481, mc381), (477, m380), (449, m375), (474, mone g373 (.cells [Value.slice A375_0 ((tL (sOld l_)).length) (c375_0)].toArray 34 (0, 0))), (445, mone g344 (.cells [Value.slice A380_0 ((tL T_).length) (c380_0)].toArray 34 (0, 0))), (0, mout (wm W) (m0))] ?_
              refine VO.k5 0 2 3 4 6 ?_
              exact outN (hJ2 ⟨g373, g344, (tL (sOld l_)), A375_0, c375_0, m375, (tL T_), A380_0, c380_0, m380, mc381⟩ _ _ ⟨by rfl, by rfl, (Ow.ownl f375_0 rfl mnil), (Ow.ownl f380_0 rfl mnil), ho381⟩ ⟨⟨rfl, rfl, rfl, rfl, trivial⟩, fun _ h => Inv.sub (Inv.num (Inv.num (Inv.num (Inv.num (Inv.num h 449 111 rfl) 477 116 rfl) 481 124 rfl) 445 123 rfl) 474 121 rfl) [124, 123, 121, 116, 111, 0]⟩)
          · -- FA201
            refine VI.alloc 483 rfl rfl tz34 (fun _ _ h => Inv.sbK [129, 127, 128, 0] h) (fun g382 => ?_)
            refine VE.tree [2] (by kernel_rfl) ⟨?_, trivial⟩
            refine VI.call 446 rfl rfl (.inl rfl) fnOk44 rfl rfl (fun _ _ h => Inv.sbK [129, 127, 128, 0] h) (fun W hW => tAll_ok W (hW.at (i := 446) rfl) f346_0 bd) (fun v384 m384 hv384 => ?_)
            obtain ⟨s384_0, p384_0, p384_1, rfl, hS384, f384_0, w384_0⟩ := hv384
            refine VE.inv _ (fun _ h => h.parts (i := 446) rfl hS384 [485, 486]) ?_
            have hfa387 := tL_len (d := (sOld l_))
            refine VE.inv [(485, p384_0), (483, mone g382 (.cells [Value.slice none (0) (0)].toArray 34 (0, 0))), (445, mone g344 (.cells [Value.slice none (0) (0)].toArray 34 (0, 0))), (129, mone g0 (.cells [Value.pointer (some ⟨gt_, 0, none⟩), Value.pointer (some ⟨gu_, 0, none⟩), Value.slice q25_A2 (r_.length) (q25_c2)].toArray q25_E (0, 0))), (126, q25_n0), (127, q25_n1), (128, q25_n2), (0, mout (wm W) (m0))] (fun _ h => Inv.sbK [485, 483, 445, 129, 126, 127, 128, 0] h) ?_
            refine VE.tree [3] (by kernel_rfl) ⟨?_, trivial⟩
            refine VI.call 485 rfl rfl (.inl rfl) fnOk43 rfl rfl (fun _ _ h => Inv.sbK [129, 127, 128, 0] h) (fun W hW => coll_ok W (hW.at (i := 485) rfl) f384_0 bd) (fun v388 m388 hv388 => ?_)
            obtain ⟨s388_0, rfl, f388_0⟩ := hv388
            obtain ⟨A388_0, c388_0, eq388_0, l388_0, k388_0⟩ := f388_0.slice
            subst eq388_0
            simp only [maxLen] at k388_0
            refine VE.tree [8] (by kernel_rfl) ⟨?_, trivial⟩
            refine VI.call 126 rfl rfl (.inl rfl) fnOk44 rfl rfl (fun _ _ h => Inv.sbK [129, 127, 128, 0] h) (fun W hW => tAll_ok W (hW.at (i := 126) rfl) q25_0 bd) (fun v389 m389 hv389 => ?_)
            obtain ⟨s389_0, p389_0, p389_1, rfl, hS389, f389_0, w389_0⟩ := hv389
            refine VE.inv _ (fun _ h => h.parts (i := 126) rfl hS389 [490, 491]) ?_
            have hfa392 := tL_len (d := T_)
            refine VE.tree [9] (by kernel_rfl) ⟨?_, trivial⟩
            refine VI.call 490 rfl rfl (.inl rfl) fnOk43 rfl rfl (fun _ _ h => Inv.sbK [129, 127, 128, 0] h) (fun W hW => coll_ok W (hW.at (i := 490) rfl) f389_0 bd) (fun v393 m393 hv393 => ?_)
            obtain ⟨s393_0, rfl, f393_0⟩ := hv393
            obtain ⟨A393_0, c393_0, eq393_0, l393_0, k393_0⟩ := f393_0.slice
            subst eq393_0
            simp only [maxLen] at k393_0
            refine VE.nil (by kernel_rfl) rfl ?_ rfl
            refine VO.store (k := 1) (c' := [Value.slice A388_0 ((tL (sOld l_)).length) (c388_0)]) 483 rfl rfl (.inr ⟨tk34, rfl⟩) rfl rfl rfl rfl rfl ?_
            refine VO.store (k := 1) (c' := [Value.slice A393_0 ((tL T_).length) (c393_0)]) 445 rfl rfl (.inr ⟨tk34, rfl⟩) rfl rfl rfl rfl rfl ?_
            refine VO.clsP 494 [129, 491, 127, 128] rfl (fun hg394 => (mkP_storeStore (gt_, T_) (gu_, ((gd_, D_), br_, l_)) r_ hg394 w389_0 q25_1 q25_2)) (fun mc394 ho394 => ?_)
            refine VO.kp [494, 490, 485, 483, 445, 0] [(494, mc394), (490, m393), (485, m388), (483, mone g382 (.cells [Value.slice A388_0 ((tL (sOld l_)).length) (c388_0)].toArray 34 (0, 0))), (445, mone g344 (.cells [Value.slice A393_0 ((tL T_).length) (c393_0)].toArray 34 (0, 0))), (0, mout (wm W) (m0))] ?_
            refine VO.k5 0 2 3 4 6 ?_
            exact outN (hJ2 ⟨g382, g344, (tL (sOld l_)), A388_0, c388_0, m388, (tL T_), A393_0, c393_0, m393, mc394⟩ _ _ ⟨by rfl, by rfl, (Ow.ownl f388_0 rfl mnil), (Ow.ownl f393_0 rfl mnil), ho394⟩ ⟨⟨rfl, rfl, rfl, rfl, trivial⟩, fun _ h => Inv.sub (Inv.num (Inv.num (Inv.num (Inv.num (Inv.num h 485 111 rfl) 490 116 rfl) 494 124 rfl) 445 123 rfl) 483 121 rfl) [124, 123, 121, 116, 111, 0]⟩)
        · -- FA21
          refine VI.alloc 496 rfl rfl tz34 (fun _ _ h => Inv.sbK [129, 127, 128, 0] h) (fun g395 => ?_)
          refine VE.tree [1] (by kernel_rfl) ⟨?_, trivial⟩
          refine VI.callN 497 rfl rfl (.inl rfl) fnOk95 rfl (fun _ h => Inv.sbK [129, 127, 128, 0] h) (fun W hW => sOlderR_ok W (show Rd (.ptr TstoreStore) _ _ (g0, ((gt_, T_), (gu_, ((gd_, D_), br_, l_)), r_)) from ⟨rfl, _, _, (hW.at (i := 129) rfl) _ _ (mone_self _ _), (mk_storeStore (m := wm W) (gt_, T_) (gu_, ((gd_, D_), br_, l_)) r_ (Ow.rd q25_0 (hW.at (i := 126) rfl)) (Ow.rd q25_1 (hW.at (i := 127) rfl)) (Ow.rd q25_2 (hW.at (i := 128) rfl)))⟩) (by assumption)) (fun v397 m397 hv397 => ?_)
          try dsimp only at hv397
          obtain ⟨s397_0, rfl, f397_0⟩ := hv397
          have hfa398 := (sOld_len (show okU l_ by assumption))
          refine VE.tree [2] (by kernel_rfl) ⟨?_, trivial⟩
          refine VI.call 497 rfl rfl (.inl rfl) fnOk44 rfl rfl (fun _ _ h => Inv.sbK [129, 127, 128, 0] h) (fun W hW => tAll_ok W (hW.at (i := 497) rfl) f397_0 bd) (fun v399 m399 hv399 => ?_)
          obtain ⟨s399_0, p399_0, p399_1, rfl, hS399, f399_0, w399_0⟩ := hv399
          refine VE.inv _ (fun _ h => h.parts (i := 497) rfl hS399 [500, 501]) ?_
          have hfa402 := tL_len (d := (sOld l_))
          refine VE.inv [(500, p399_0), (496, mone g395 (.cells [Value.slice none (0) (0)].toArray 34 (0, 0))), (445, mone g344 (.cells [Value.slice none (0) (0)].toArray 34 (0, 0))), (129, mone g0 (.cells [Value.pointer (some ⟨gt_, 0, none⟩), Value.pointer (some ⟨gu_, 0, none⟩), Value.slice q25_A2 (r_.length) (q25_c2)].toArray q25_E (0, 0))), (126, q25_n0), (127, q25_n1), (128, q25_n2), (0, mout (wm W) (m0))] (fun _ h => Inv.sbK [500, 496, 445, 129, 126, 127, 128, 0] h) ?_
          refine VE.tree [3] (by kernel_rfl) ⟨?_, trivial⟩
          refine VI.call 500 rfl rfl (.inl rfl) fnOk43 rfl rfl (fun _ _ h => Inv.sbK [129, 127, 128, 0] h) (fun W hW => coll_ok W (hW.at (i := 500) rfl) f399_0 bd) (fun v403 m403 hv403 => ?_)
          obtain ⟨s403_0, rfl, f403_0⟩ := hv403
          obtain ⟨A403_0, c403_0, eq403_0, l403_0, k403_0⟩ := f403_0.slice
          subst eq403_0
          simp only [maxLen] at k403_0
          refine VE.tree [8] (by kernel_rfl) ⟨?_, trivial⟩
          refine VI.call 126 rfl rfl (.inl rfl) fnOk44 rfl rfl (fun _ _ h => Inv.sbK [129, 127, 128, 0] h) (fun W hW => tAll_ok W (hW.at (i := 126) rfl) q25_0 bd) (fun v404 m404 hv404 => ?_)
          obtain ⟨s404_0, p404_0, p404_1, rfl, hS404, f404_0, w404_0⟩ := hv404
          refine VE.inv _ (fun _ h => h.parts (i := 126) rfl hS404 [505, 506]) ?_
          have hfa407 := tL_len (d := T_)
          refine VE.tree [9] (by kernel_rfl) ⟨?_, trivial⟩
          refine VI.call 505 rfl rfl (.inl rfl) fnOk43 rfl rfl (fun _ _ h => Inv.sbK [129, 127, 128, 0] h) (fun W hW => coll_ok W (hW.at (i := 505) rfl) f404_0 bd) (fun v408 m408 hv408 => ?_)
          obtain ⟨s408_0, rfl, f408_0⟩ := hv408
          obtain ⟨A408_0, c408_0, eq408_0, l408_0, k408_0⟩ := f408_0.slice
          subst eq408_0
          simp only [maxLen] at k408_0
          refine VE.nil (by kernel_rfl) rfl ?_ rfl
          refine VO.store (k := 1) (c' := [Value.slice A403_0 ((tL (sOld l_)).length) (c403_0)]) 496 rfl rfl (.inr ⟨tk34, rfl⟩) rfl rfl rfl rfl rfl ?_
          refine VO.store (k := 1) (c' := [Value.slice A408_0 ((tL T_).length) (c408_0)]) 445 rfl rfl (.inr ⟨tk34, rfl⟩) rfl rfl rfl rfl rfl ?_
          refine VO.clsP 509 [129, 506, 127, 128] rfl (fun hg409 => (mkP_storeStore (gt_, T_) (gu_, ((gd_, D_), br_, l_)) r_ hg409 w404_0 q25_1 q25_2)) (fun mc409 ho409 => ?_)
          refine VO.kp [509, 505, 500, 496, 445, 0] [(509, mc409), (505, m408), (500, m403), (496, mone g395 (.cells [Value.slice A403_0 ((tL (sOld l_)).length) (c403_0)].toArray 34 (0, 0))), (445, mone g344 (.cells [Value.slice A408_0 ((tL T_).length) (c408_0)].toArray 34 (0, 0))), (0, mout (wm W) (m0))] ?_
          refine VO.k5 0 2 3 4 6 ?_
          exact outN (hJ2 ⟨g395, g344, (tL (sOld l_)), A403_0, c403_0, m403, (tL T_), A408_0, c408_0, m408, mc409⟩ _ _ ⟨by rfl, by rfl, (Ow.ownl f403_0 rfl mnil), (Ow.ownl f408_0 rfl mnil), ho409⟩ ⟨⟨rfl, rfl, rfl, rfl, trivial⟩, fun _ h => Inv.sub (Inv.num (Inv.num (Inv.num (Inv.num (Inv.num h 500 111 rfl) 505 116 rfl) 509 124 rfl) 445 123 rfl) 496 121 rfl) [124, 123, 121, 116, 111, 0]⟩)
theorem fnOk50 : fnOk Tryz.prog 50 = true := by kernel_rfl
theorem all14_ok (W : World) {r_ : List DCommit} {l_ : List DRun} {br_ : Bool} {D_ : DdiskDisk} {gd_ : Nat} {gu_ : Nat} {T_ : DtableTable} {gt_ : Nat} {m0 : Mem} (hm : mle (m0) (wm W)) {g0 : Nat} (h0 : Ow (.ptr TstoreStore) m0 [.pointer (some ⟨g0, 0, none⟩)] (g0, ((gt_, T_), (gu_, ((gd_, D_), br_, l_)), r_))) (d1 : Int) (h1 : inK .i64 d1) (e0 : T_ = sT r_) (e1 : okU l_) (e2 : okS l_ r_) (e3 : l_.length ≤ 900) (e4 : r_.length ≤ 100000) : CallR Tryz.prog 17 [.pointer (some ⟨g0, 0, none⟩), .int .i64 d1] W (m0) (fun v m' => ∃ (s0 : Value), ∃ (p0 : Mem), ∃ (p1 : Mem), v = s0 ∧ Seps m' [p0, p1] ∧ Ow (.sl TOp) p0 [s0] (allT ((sList l_ r_).filter (·.1)) d1) ∧ Ow (.ptr TstoreStore) p1 [.pointer (some ⟨g0, 0, none⟩)] (g0, ((gt_, T_), (gu_, ((gd_, D_), br_, l_)), r_))) := by
  have hll := okU_len e1; have hsl := sT_len e2; have hol := sOld_len e1; have hfl := sList_len (l := l_) (r := r_)
  have h1' := h1; simp only [inK] at h1'
  refine CallR.ofX (n := 23) Tryz.func17 rfl rfl rfl hm ?_
  refine VX.rs ?_
  refine VO.box (cs := [Value.int .i64 (d1)]) 102 rfl rfl rfl (fun g1 => ?_)
  refine VO.as ?_
  refine VO.k4 0 1 3 4 ?_
  refine VX.rs ?_
  refine VO.alloc 104 rfl tz34 (fun g3 => ?_)
  refine VO.k5 0 1 3 4 5 ?_
  refine VX.seq ?_
  refine VX.rs ?_
  refine VO.mv ?_
  refine VO.call 1 rfl fnOk50 rfl rfl (fun W hW => sAll_ok W (hW.at (i := 1) rfl) h0 (by first | assumption | rfl) (by assumption) (by assumption) bd bd) (fun v5 m5 hv5 => ?_)
  try dsimp only at hv5
  obtain ⟨s5_0, p5_0, p5_1, rfl, hS5, f5_0, w5_0⟩ := hv5
  refine VO.inv _ (fun _ h => h.parts (i := 1) rfl hS5 [106, 107]) ?_
  refine VO.kp [106, 107, 104, 102, 0] [(106, p5_0), (107, p5_1), (104, mone g3 (.cells [Value.slice none (0) (0)].toArray 34 (0, 0))), (102, mone g1 (.cells [Value.int .i64 (d1)].toArray 3 (0, 0))), (0, mout (wm W) (m0))] ?_
  refine VO.k6 0 1 3 4 5 9 ?_
  refine VX.block ?_
  refine VX.inv ((108, mnil) :: _) (fun _ h => h.nilc 108) ?_
  refine VX.gather (l := [mnil, mone g3 (.cells [Value.slice none (0) (0)].toArray 34 (0, 0))]) 110 [108, 104] rfl (fun hg9 => ?_)
  refine VX.inv [(106, p5_0), (110, muns [mnil, mone g3 (.cells [Value.slice none (0) (0)].toArray 34 (0, 0))]), (107, p5_1), (102, mone g1 (.cells [Value.int .i64 (d1)].toArray 3 (0, 0))), (0, mout (wm W) (m0))] (fun _ h => h.sub [106, 110, 107, 102, 0]) ?_
  refine VX.rangeF (A := Int) (G := (List DOp) × (Option Addr) × Nat × Mem) (rest := [(107, p5_1), (102, mone g1 (.cells [Value.int .i64 (d1)].toArray 3 (0, 0))), (0, mout (wm W) (m0))]) 110 106 111 112 113 114 (fun g => muns [(g.2.2.2), mone g3 (.cells [Value.slice (g.2.1) ((g.1).length) ((g.2.2.1))].toArray 34 (0, 0))]) (fun at_ g => ((g.1) = ((sList l_ r_).filter (·.1)).take at_.toNat ∧ 0 ≤ at_ ∧ at_ ≤ ((sList l_ r_).filter (·.1)).length ∧ (d1 < 0 ∨ at_ ≤ d1)) ∧ (OwnL TOp (g.2.2.2) mnil (.slice (g.2.1) (g.1).length (g.2.2.1)) (g.1)) ∧ (Seps (muns [(g.2.2.2), mone g3 (.cells [Value.slice (g.2.1) ((g.1).length) ((g.2.2.1))].toArray 34 (0, 0))]) [(g.2.2.2), mone g3 (.cells [Value.slice (g.2.1) ((g.1).length) ((g.2.2.1))].toArray 34 (0, 0))])) (fun e g => e = (.exit 0) ∧ ((g.1) = allT ((sList l_ r_).filter (·.1)) d1) ∧ (OwnL TOp (g.2.2.2) mnil (.slice (g.2.1) (g.1).length (g.2.2.1)) (g.1)) ∧ (Seps (muns [(g.2.2.2), mone g3 (.cells [Value.slice (g.2.1) ((g.1).length) ((g.2.2.1))].toArray 34 (0, 0))]) [(g.2.2.2), mone g3 (.cells [Value.slice (g.2.1) ((g.1).length) ((g.2.2.1))].toArray 34 (0, 0))])) ([], none, 0, mnil) ⟨by exact ⟨rfl, by omega, by omega, by omega⟩, (OwnL.nil TOp mnil mnil), hg9⟩ (fun _ _ => f5_0) rfl rfl rfl (fun _ _ _ h => by obtain ⟨_, _, _, _, _, _, _, rfl⟩ := h; rfl) (fun args => [(6, args.getD 0 undef), (7, args.getD 1 undef), (0, Value.pointer (some ⟨g0, 0, none⟩)), (1, Value.int .i64 (d1)), (3, Value.pointer (some ⟨g1, 0, none⟩)), (4, Value.slice none (0) (0)), (5, Value.pointer (some ⟨g3, 0, none⟩))]) ?_ ?_ ?_ ?_
  · intro w1_ lr_ args_ Ω_ hl_
    obtain ⟨y0_, y1_, rfl⟩ : ∃ y0_ y1_, args_ = [y0_, y1_] := (match args_, hl_ with | [y0_, y1_], _ => ⟨y0_, y1_, rfl⟩)
    refine VX.rs ?_
    refine VO.as ?_
    refine VO.nil ?_
    refine VX.reg ?_
    refine VO.as ?_
    refine VO.nil ?_
    exact ⟨rfl, rfl, ⟨rfl, rfl, rfl, rfl, rfl, rfl, rfl, trivial⟩, rfl⟩
  · -- B
    rintro w1_ lr_ Dr_ at_ ⟨out, out_A, out_c, out_m⟩ args_ mr_ ml_ mo_ ⟨ho, h_out, hSep_⟩ hE_
    replace ho : out = ((sList l_ r_).filter (·.1)).take at_.toNat ∧ 0 ≤ at_ ∧ at_ ≤ ((sList l_ r_).filter (·.1)).length ∧ (d1 < 0 ∨ at_ ≤ d1) := ho
    replace h_out : OwnL TOp out_m mnil (.slice out_A out.length out_c) out := h_out
    replace hSep_ : Seps (muns [out_m, mone g3 (.cells [Value.slice out_A (out.length) (out_c)].toArray 34 (0, 0))]) [out_m, mone g3 (.cells [Value.slice out_A (out.length) (out_c)].toArray 34 (0, 0))] := hSep_
    obtain ⟨hE0_, hE1_, hE2_, x_, hxa_, hxl1_, hxl2_, rfl⟩ := hE_
    simp only [maxLen] at hxl1_ hxl2_
    refine VX.parts 110 [108, 104] rfl hSep_ ?_
    show VX _ _ _ _ _ _ _ [(6, str (x_.2.1)), (7, str (x_.2.2)), (0, Value.pointer (some ⟨g0, 0, none⟩)), (1, Value.int .i64 (d1)), (3, Value.pointer (some ⟨g1, 0, none⟩)), (4, Value.slice none (0) (0)), (5, Value.pointer (some ⟨g3, 0, none⟩))] [(108, out_m), (104, mone g3 (.cells [Value.slice out_A (out.length) (out_c)].toArray 34 (0, 0))), (113, mr_), (114, mo_), (112, ml_), (111, mone Dr_ (.deferred (some []))), (107, p5_1), (102, mone g1 (.cells [Value.int .i64 (d1)].toArray 3 (0, 0))), (0, mout (wm W) (m0))]
    have l_out : out.length ≤ out_c := by obtain ⟨_, _, he, hl, _⟩ := h_out.slice; simp only [Value.slice.injEq] at he; omega
    have k_out : out_c ≤ 9223372036854775807 := by obtain ⟨_, _, he, _, hl⟩ := h_out.slice; simp only [Value.slice.injEq, maxLen] at he hl; omega
    have hlo : out.length ≤ ((sList l_ r_).filter (·.1)).length := by rw [ho.1, List.length_take]; omega
    refine VX.block ?_
    refine VX.seq ?_
    refine VX.rs ?_
    refine VO.y rfl (.ld1 104 rfl tk34 rfl (cellsAt_one rfl rfl)) ?_
    refine VO.y rfl (.lenS rfl tsl34) ?_
    refine VO.y rfl (.ld1 102 rfl tk3 rfl (cellsAt_one rfl rfl)) ?_
    refine VO.y rfl (.eql rfl rfl) ?_
    refine VO.k8 0 1 3 4 5 6 7 15 ?_
    refine VX.cond rfl (fun hc15 => ?_) (fun hc15 => ?_)
    · -- BT
      refine VX.exit ?_
      refine outE ?_
      refine outBE rfl ?_
      exact ⟨rfl, fun W_ hW_ => ⟨⟨out, out_A, out_c, out_m⟩, (hW_.gather (ids := [108, 104]) 110 rfl).1.sub [114, 112, 110, 111, 107, 102, 0], .inr ⟨rfl, rfl, by exact all_stop ho (by assumption), h_out, (hW_.gather (ids := [108, 104]) 110 rfl).2⟩⟩⟩
    · -- BF
      refine VX.skip ?_
      refine outN ?_
      refine VX.reg ?_
      refine VO.y rfl (.ld1 104 rfl tk34 rfl (cellsAt_one rfl rfl)) ?_
      refine VO.mv ?_
      refine VO.mv ?_
      refine VO.y rfl (.bst (cs := [Value.bool true, str (x_.2.1), str (x_.2.2)]) rfl tst64 tz64 rfl) ?_
      refine VO.bsl (cs := [Value.bool true, str (x_.2.1), str (x_.2.2)]) 117 rfl rfl tsl34 tz64 rfl rfl (fun g16 => ?_)
      obtain ⟨mo18, cs18, hM18, hA18, hC18⟩ := h_out
      refine VO.app 108 rfl rfl rfl tsl34 tz64 rfl rfl hM18 hA18 (.row 117 _ _ _ 1 1 _ _ Tryz.underlying34 rfl (cellsAt_one rfl rfl)) (by simp [Value.oneCell']) bdm bd (by decide) (fun v18 m18 hN18 => ?_)
      have ho18 : OwnL TOp m18 mnil v18 (out ++ [(true, x_.2)]) := OwnL.one hC18 hN18 (mk_Op (m := _) true x_.2.1 x_.2.2 bdm bdm)
      obtain ⟨A18, c18, rfl, l18, k18⟩ := ho18.slice
      simp only [maxLen] at k18
      refine VO.store (k := 1) (c' := [Value.slice A18 ((out ++ [(true, x_.2)]).length) (c18)]) 104 rfl rfl (.inr ⟨tk34, rfl⟩) rfl rfl rfl rfl rfl ?_
      refine VO.k8 0 1 3 4 5 6 7 15 ?_
      refine outBN ?_
      exact ⟨rfl, fun W_ hW_ => ⟨⟨out ++ [(true, x_.2)], A18, c18, m18⟩, (hW_.gather (ids := [108, 104]) 110 rfl).1.sub [114, 112, 110, 111, 107, 102, 0], .inl ⟨rfl, by exact alls_in ho hxa_ (by assumption), ho18, (hW_.gather (ids := [108, 104]) 110 rfl).2⟩⟩⟩
  · -- D
    rintro Dr_ at_ ⟨out, out_A, out_c, out_m⟩ ⟨ho, h_out, hSep_⟩ hDn_
    replace ho : out = ((sList l_ r_).filter (·.1)).take at_.toNat ∧ 0 ≤ at_ ∧ at_ ≤ ((sList l_ r_).filter (·.1)).length ∧ (d1 < 0 ∨ at_ ≤ d1) := ho
    replace h_out : OwnL TOp out_m mnil (.slice out_A out.length out_c) out := h_out
    replace hSep_ : Seps (muns [out_m, mone g3 (.cells [Value.slice out_A (out.length) (out_c)].toArray 34 (0, 0))]) [out_m, mone g3 (.cells [Value.slice out_A (out.length) (out_c)].toArray 34 (0, 0))] := hSep_
    have l_out : out.length ≤ out_c := by obtain ⟨_, _, he, hl, _⟩ := h_out.slice; simp only [Value.slice.injEq] at he; omega
    have k_out : out_c ≤ 9223372036854775807 := by obtain ⟨_, _, he, _, hl⟩ := h_out.slice; simp only [Value.slice.injEq, maxLen] at he hl; omega
    refine outBN ?_
    refine outN ?_
    refine VX.parts 110 [108, 104] rfl hSep_ ?_
    show VX _ _ _ _ _ _ _ [(0, Value.pointer (some ⟨g0, 0, none⟩)), (1, Value.int .i64 (d1)), (3, Value.pointer (some ⟨g1, 0, none⟩)), (4, Value.slice none (0) (0)), (5, Value.pointer (some ⟨g3, 0, none⟩)), (9, Value.func (.func 96) #[] s5_0.toArray)] [(108, out_m), (104, mone g3 (.cells [Value.slice out_A (out.length) (out_c)].toArray 34 (0, 0))), (111, mone Dr_ (.deferred (some []))), (107, p5_1), (102, mone g1 (.cells [Value.int .i64 (d1)].toArray 3 (0, 0))), (0, mout (wm W) (m0))]
    refine VX.rs ?_
    refine VO.y rfl (.ld1 104 rfl tk34 rfl (cellsAt_one rfl rfl)) ?_
    refine VO.as ?_
    refine VO.k6 0 1 3 4 5 9 ?_
    refine VX.ret ?_
    refine ⟨111, rfl, ?_⟩
    refine ⟨_, _, res_run (rs := [.tmp 4]) rfl (.tmp rfl .nil), fun W_ hI => out_of (l := [out_m, p5_1]) hI [108, 107] rfl rfl (mle_refl _) (fun hS_ => ?_)⟩
    dsimp only [packV]
    have he0 : (allT ((sList l_ r_).filter (·.1)) d1 : Ty.Den (.sl TOp)) = out := by first | rfl | (first | exact hs.symm | exact (alls_done ho hDn_).symm)
    have hm0_ : (((gt_, T_), (gu_, ((gd_, D_), br_, l_)), r_) : DstoreStore) = ((gt_, T_), (gu_, ((gd_, D_), br_, l_)), r_) := by first | rfl | (first | exact hs.symm | exact (alls_done ho hDn_).symm)
    refine ⟨Value.slice out_A (out.length) (out_c), muns [out_m], muns [p5_1], ?_, ?_, ?_, ?_⟩
    rotate_left
    · exact Seps.grp (ls := [[out_m], [p5_1]]) hS_
    · rw [he0]; exact (Ow.up (OwnL.ow h_out rfl) ((Seps.self hS_ (List.Sublist.cons_cons _ (List.Sublist.cons _ List.Sublist.slnil))).1 _ (.head _)))
    · rw [hm0_]; exact (Ow.up w5_0 ((Seps.self hS_ (List.Sublist.cons _ (List.Sublist.cons_cons _ List.Sublist.slnil))).1 _ (.head _)))
    all_goals (first | rfl | (simp [*]; done))
  · -- X
    rintro Dr_ _ ⟨out, out_A, out_c, out_m⟩ ⟨rfl, hs, h_out, hSep_⟩ _
    replace hs : out = allT ((sList l_ r_).filter (·.1)) d1 := hs
    replace h_out : OwnL TOp out_m mnil (.slice out_A out.length out_c) out := h_out
    replace hSep_ : Seps (muns [out_m, mone g3 (.cells [Value.slice out_A (out.length) (out_c)].toArray 34 (0, 0))]) [out_m, mone g3 (.cells [Value.slice out_A (out.length) (out_c)].toArray 34 (0, 0))] := hSep_
    have l_out : out.length ≤ out_c := by obtain ⟨_, _, he, hl, _⟩ := h_out.slice; simp only [Value.slice.injEq] at he; omega
    have k_out : out_c ≤ 9223372036854775807 := by obtain ⟨_, _, he, _, hl⟩ := h_out.slice; simp only [Value.slice.injEq, maxLen] at he hl; omega
    refine outBB ?_
    refine outN ?_
    refine VX.parts 110 [108, 104] rfl hSep_ ?_
    show VX _ _ _ _ _ _ _ [(0, Value.pointer (some ⟨g0, 0, none⟩)), (1, Value.int .i64 (d1)), (3, Value.pointer (some ⟨g1, 0, none⟩)), (4, Value.slice none (0) (0)), (5, Value.pointer (some ⟨g3, 0, none⟩)), (9, Value.func (.func 96) #[] s5_0.toArray)] [(108, out_m), (104, mone g3 (.cells [Value.slice out_A (out.length) (out_c)].toArray 34 (0, 0))), (111, mone Dr_ (.deferred (some []))), (107, p5_1), (102, mone g1 (.cells [Value.int .i64 (d1)].toArray 3 (0, 0))), (0, mout (wm W) (m0))]
    refine VX.rs ?_
    refine VO.y rfl (.ld1 104 rfl tk34 rfl (cellsAt_one rfl rfl)) ?_
    refine VO.as ?_
    refine VO.k6 0 1 3 4 5 9 ?_
    refine VX.ret ?_
    refine ⟨111, rfl, ?_⟩
    refine ⟨_, _, res_run (rs := [.tmp 4]) rfl (.tmp rfl .nil), fun W_ hI => out_of (l := [out_m, p5_1]) hI [108, 107] rfl rfl (mle_refl _) (fun hS_ => ?_)⟩
    dsimp only [packV]
    have he0 : (allT ((sList l_ r_).filter (·.1)) d1 : Ty.Den (.sl TOp)) = out := by first | rfl | (first | exact hs.symm | exact (alls_done ho hDn_).symm)
    have hm0_ : (((gt_, T_), (gu_, ((gd_, D_), br_, l_)), r_) : DstoreStore) = ((gt_, T_), (gu_, ((gd_, D_), br_, l_)), r_) := by first | rfl | (first | exact hs.symm | exact (alls_done ho hDn_).symm)
    refine ⟨Value.slice out_A (out.length) (out_c), muns [out_m], muns [p5_1], ?_, ?_, ?_, ?_⟩
    rotate_left
    · exact Seps.grp (ls := [[out_m], [p5_1]]) hS_
    · rw [he0]; exact (Ow.up (OwnL.ow h_out rfl) ((Seps.self hS_ (List.Sublist.cons_cons _ (List.Sublist.cons _ List.Sublist.slnil))).1 _ (.head _)))
    · rw [hm0_]; exact (Ow.up w5_0 ((Seps.self hS_ (List.Sublist.cons _ (List.Sublist.cons_cons _ List.Sublist.slnil))).1 _ (.head _)))
    all_goals (first | rfl | (simp [*]; done))
theorem fnOk41 : fnOk Tryz.prog 41 = true := by kernel_rfl
theorem fnOk42 : fnOk Tryz.prog 42 = true := by kernel_rfl
theorem fin0_sFlush_ok {P : Prop} (h : P := by first | (rw [sFlush_arg (.inl (by assumption)), e0]; done) | (rw [sFlush_arg (.inr (by assumption)), e0]; done) | (rw [sFlush_same (by assumption) (by assumption) (by assumption), e0]; done) | (rw [sFlush_long (by assumption) (by assumption) (by assumption) htk (by assumption), e0]; done) | (rw [sFlush_bad (by assumption) (by assumption) (by assumption) htk (by assumption) (by assumption), e0]; done) | (rw [sFlush_good (by assumption) (by assumption) (by assumption) htk (by assumption) (by assumption), hw0, hw2, List.take_of_length_le (by omega)]; done)) : P := h
theorem fin1_sFlush_ok {P : Prop} (h : P := by first | (rw [sFlush_arg (.inl (by assumption))] <;> rfl) | (rw [sFlush_arg (.inr (by assumption))] <;> rfl) | (rw [sFlush_same (by assumption) (by assumption) (by assumption)] <;> rfl) | (rw [sFlush_long (by assumption) (by assumption) (by assumption) htk (by assumption)] <;> rfl) | (rw [sFlush_bad (by assumption) (by assumption) (by assumption) htk (by assumption) (by assumption)] <;> rfl) | (rw [sFlush_good (by assumption) (by assumption) (by assumption) htk (by assumption) (by assumption)] <;> rfl)) : P := h
theorem fin2_sFlush_ok {P : Prop} (h : P := by first | omega | (simp only [List.length_append, List.length_nil, List.length_cons, List.length_take, List.length_drop] at *; omega) | exact okS_ops e2 _ (List.mem_of_mem_drop (List.mem_of_getElem? ‹(r_.drop _)[_]? = some _›))) : P := h
set_option maxHeartbeats 8000000 in
theorem sFlush_ok (W : World) {r_ : List DCommit} {l_ : List DRun} {br_ : Bool} {D_ : DdiskDisk} {gd_ : Nat} {gu_ : Nat} {T_ : DtableTable} {gt_ : Nat} {m0 : Mem} (hm : mle (m0) (wm W)) {g0 : Nat} (h0 : Ow (.ptr TstoreStore) m0 [.pointer (some ⟨g0, 0, none⟩)] (g0, ((gt_, T_), (gu_, ((gd_, D_), br_, l_)), r_))) (d1 : Int) (h1 : inK .i64 d1) (e0 : T_ = sT r_) (e1 : okU l_) (e2 : okS l_ r_) (e3 : r_.length ≤ 100000) (e4 : okD D_) (e5 : wD D_ + 200000 ≤ 1000000000000) : CallR Tryz.prog 11 [.pointer (some ⟨g0, 0, none⟩), .int .i64 d1] W (m0) (fun v m' => ∃ (gt2 : Nat), v = .int .i64 ((sFlush D_ br_ l_ r_ d1).2) ∧ Ow (.ptr TstoreStore) m' [.pointer (some ⟨g0, 0, none⟩)] (g0, ((gt2, (sT (sFlush D_ br_ l_ r_ d1).1.2)), (gu_, ((gd_, (sFlush D_ br_ l_ r_ d1).1.1.1), (sFlush D_ br_ l_ r_ d1).1.1.2)), (sFlush D_ br_ l_ r_ d1).1.2))) := by
  have hll := okU_len e1
  have h1' := h1; simp only [inK] at h1'
  refine CallR.ofB (n := 96) hm Tryz.func11 rfl rfl rfl ?_
  refine VC.rs ?_
  refine VO.as ?_
  refine VO.k3 0 1 4 ?_
  refine VC.seq ?_
  refine VC.rs ?_
  refine VO.mv ?_
  refine VO.call 1 rfl fnOk40 rfl rfl (fun W hW => sNone_ok W (hW.at (i := 1) rfl) h0) (fun v1 m1 hv1 => ?_)
  try dsimp only at hv1
  obtain ⟨rfl, w1_0⟩ := hv1
  refine VO.k4 0 1 4 14 ?_
  refine VC.cond rfl (fun hc2 => ?_) (fun hc2 => ?_)
  · -- T
    exact hc2.elim
  · -- F
    refine VC.skip ?_
    refine outN ?_
    refine VC.rs ?_
    refine VO.mv ?_
    refine VO.y rfl (.nilp rfl) ?_
    refine VO.y rfl (.fa rfl tst40 rfl) ?_
    obtain ⟨q3_E, q3_A2, q3_c2, q3_n0, q3_n1, q3_n2, _, q3_S, q3_0, q3_1, q3_2⟩ := openP_storeStore (x0 := (gt_, T_)) (x1 := (gu_, ((gd_, D_), br_, l_))) (x2 := r_) w1_0
    dsimp only at q3_0
    dsimp only at q3_1
    have q3_r2 := q3_2.rm
    refine VO.inv _ (fun _ h => h.parts (i := 1) rfl q3_S [107, 104, 105, 106]) ?_
    refine VO.y rfl (.ld1 107 rfl tk38 rfl (cellsAt_one rfl rfl)) ?_
    refine VO.call 105 rfl fnOk21 rfl rfl (fun W hW => uEnd_ok W (hW.at (i := 105) rfl) q3_1 (by assumption)) (fun v8 m8 hv8 => ?_)
    try dsimp only at hv8
    obtain ⟨rfl, w8_0⟩ := hv8
    refine VO.as ?_
    refine VO.clsP 109 [107, 104, 105, 106] rfl (fun hg9 => (mkP_storeStore (gt_, T_) (gu_, ((gd_, D_), br_, l_)) r_ hg9 q3_0 w8_0 q3_2)) (fun mc9 ho9 => ?_)
    refine VO.kp [109, 0] [(109, mc9), (0, mout (wm W) (m0))] ?_
    refine VO.k5 0 1 4 5 14 ?_
    refine VC.seq ?_
    refine VC.block ?_
    refine VC.rs ?_
    refine VO.mv ?_
    refine VO.mv ?_
    refine VO.y rfl (.lss rfl rfl) ?_
    refine VO.mv ?_
    refine VO.dec (t := 24) rfl (fun hc10 => ?_) (fun hc10 => ?_)
    · -- FT
      refine VO.gN ?_
      refine VO.gN ?_
      refine VO.gN ?_
      refine VO.gN ?_
      refine VO.y rfl (.pT rfl rfl) ?_
      refine VO.as ?_
      refine VO.k6 0 1 4 5 14 20 ?_
      refine VC.condT rfl ?_
      refine VC.rs ?_
      refine VO.as ?_
      refine VO.k6 0 1 4 5 14 20 ?_
      refine VC.ret ?_
      refine outBR ?_
      refine outR ?_
      refine ⟨_, _, res_run (rs := [.tmp 4]) rfl (.tmp rfl .nil), fun W_ hI => out_of (l := [mc9]) hI [109] rfl rfl (mle_refl _) (fun hS_ => ?_)⟩
      dsimp only [packV]
      have hm0_ : (((gt_, (sT (sFlush D_ br_ l_ r_ d1).1.2)), (gu_, ((gd_, (sFlush D_ br_ l_ r_ d1).1.1.1), (sFlush D_ br_ l_ r_ d1).1.1.2)), (sFlush D_ br_ l_ r_ d1).1.2) : DstoreStore) = ((gt_, T_), (gu_, ((gd_, D_), br_, l_)), r_) := by first | rfl | (exact fin0_sFlush_ok)
      refine ⟨gt_, ?_, ?_⟩
      rotate_left
      · rw [hm0_]; exact (Ow.up ho9 (hS_.1 _ (.head _)))
      all_goals (first | rfl | (exact fin1_sFlush_ok))
    · -- FF
      refine VO.gy rfl ⟨_, rfl, rfl⟩ (.mv rfl) ?_
      refine VO.gy rfl ⟨_, rfl, rfl⟩ (.mv rfl) ?_
      refine VO.gcall 109 rfl ⟨_, rfl, rfl⟩ fnOk16 rfl rfl (fun W hW => sEnd_ok W (hW.at (i := 109) rfl) ho9 (by assumption) (by exact fin2_sFlush_ok)) (fun v11 m11 hv11 => ?_)
      try dsimp only at hv11
      obtain ⟨rfl, w11_0⟩ := hv11
      refine VO.gy rfl ⟨_, rfl, rfl⟩ (.gtr rfl rfl) ?_
      refine VO.y rfl (.pF rfl rfl) ?_
      refine VO.as ?_
      refine VO.k6 0 1 4 5 14 20 ?_
      refine VC.cond rfl (fun hc12 => ?_) (fun hc12 => ?_)
      · -- FFT
        refine VC.rs ?_
        refine VO.as ?_
        refine VO.k6 0 1 4 5 14 20 ?_
        refine VC.ret ?_
        refine outBR ?_
        refine outR ?_
        refine ⟨_, _, res_run (rs := [.tmp 4]) rfl (.tmp rfl .nil), fun W_ hI => out_of (l := [m11]) hI [109] rfl rfl (mle_refl _) (fun hS_ => ?_)⟩
        dsimp only [packV]
        have hm0_ : (((gt_, (sT (sFlush D_ br_ l_ r_ d1).1.2)), (gu_, ((gd_, (sFlush D_ br_ l_ r_ d1).1.1.1), (sFlush D_ br_ l_ r_ d1).1.1.2)), (sFlush D_ br_ l_ r_ d1).1.2) : DstoreStore) = ((gt_, T_), (gu_, ((gd_, D_), br_, l_)), r_) := by first | rfl | (exact fin0_sFlush_ok)
        refine ⟨gt_, ?_, ?_⟩
        rotate_left
        · rw [hm0_]; exact (Ow.up w11_0 (hS_.1 _ (.head _)))
        all_goals (first | rfl | (exact fin1_sFlush_ok))
      · -- FFF
        refine VC.rs ?_
        refine VO.mv ?_
        refine VO.mv ?_
        refine VO.y rfl (.eql rfl rfl) ?_
        refine VO.as ?_
        refine VO.k7 0 1 4 5 14 20 30 ?_
        refine VC.cond rfl (fun hc13 => ?_) (fun hc13 => ?_)
        · -- FFFT
          refine VC.rs ?_
          refine VO.as ?_
          refine VO.kp [109, 0] [(109, m11), (0, mout (wm W) (m0))] ?_
          refine VO.k7 0 1 4 5 14 20 30 ?_
          refine VC.ret ?_
          refine outBR ?_
          refine outR ?_
          refine ⟨_, _, res_run (rs := [.tmp 4]) rfl (.tmp rfl .nil), fun W_ hI => out_of (l := [m11]) hI [109] rfl rfl (mle_refl _) (fun hS_ => ?_)⟩
          dsimp only [packV]
          have hm0_ : (((gt_, (sT (sFlush D_ br_ l_ r_ d1).1.2)), (gu_, ((gd_, (sFlush D_ br_ l_ r_ d1).1.1.1), (sFlush D_ br_ l_ r_ d1).1.1.2)), (sFlush D_ br_ l_ r_ d1).1.2) : DstoreStore) = ((gt_, T_), (gu_, ((gd_, D_), br_, l_)), r_) := by first | rfl | (exact fin0_sFlush_ok)
          refine ⟨gt_, ?_, ?_⟩
          rotate_left
          · rw [hm0_]; exact (Ow.up w11_0 (hS_.1 _ (.head _)))
          all_goals (first | rfl | (exact fin1_sFlush_ok))
        · -- FFFF
          refine VC.skip ?_
          refine outBN ?_
          refine outN ?_
          refine VC.rs ?_
          refine VO.callN 114 rfl fnOk23 rfl (fun W hW => tNew_ok W ) (fun v14 m14 hv14 => ?_)
          obtain ⟨s14_0, rfl, f14_0⟩ := hv14
          refine VO.as ?_
          refine VO.kp [114, 109, 0] [(114, m14), (109, m11), (0, mout (wm W) (m0))] ?_
          refine VO.k8 0 1 4 5 6 14 20 30 ?_
          refine VC.seq ?_
          refine VC.rs ?_
          refine VO.mv ?_
          refine VO.y rfl (.nilp rfl) ?_
          refine VO.y rfl (.fa rfl tst40 rfl) ?_
          obtain ⟨q15_E, q15_A2, q15_c2, q15_n0, q15_n1, q15_n2, _, q15_S, q15_0, q15_1, q15_2⟩ := openP_storeStore (x0 := (gt_, T_)) (x1 := (gu_, ((gd_, D_), br_, l_))) (x2 := r_) w11_0
          dsimp only at q15_0
          dsimp only at q15_1
          have q15_r2 := q15_2.rm
          refine VO.inv _ (fun _ h => h.parts (i := 109) rfl q15_S [119, 116, 117, 118]) ?_
          refine VO.y rfl (.ld1 119 rfl tk27 rfl (cellsAt_one rfl rfl)) ?_
          refine VO.mv ?_
          refine VO.mv ?_
          refine VO.y rfl (.sub rfl rfl rfl ⟨by exact fin2_sFlush_ok, by exact fin2_sFlush_ok⟩) ?_
          have hs20 := (Ow.rd q15_2 (mle_refl _)).pre (j := ((d1 - (endR l_)).toNat)) (by exact fin2_sFlush_ok)
          refine VO.y rfl (.slHI ((d1 - (endR l_)).toNat) rfl rfl tsl27 (by exact fin2_sFlush_ok) (by exact fin2_sFlush_ok)) ?_
          refine VO.y rfl (.lenS rfl tsl27) ?_
          refine VO.mv ?_
          refine VO.k11 0 1 4 5 6 14 20 30 42 43 44 ?_
          refine VC.block ?_
          refine VC.loop (G := Nat × DtableTable × Mem) (fun g => [(44, Value.int .i64 ((((g.1) : Nat) : Int))), (0, Value.pointer (some ⟨g0, 0, none⟩)), (1, Value.int .i64 (d1)), (4, Value.int .i64 (0)), (5, Value.int .i64 (endR l_)), (6, Value.pointer (some ⟨s14_0, 0, none⟩)), (14, Value.bool (decide (False))), (20, Value.bool (decide ((endR l_ + ((r_.length : Nat) : Int)) < d1))), (30, Value.bool (decide (d1 = (endR l_)))), (42, Value.slice q15_A2 ((d1 - (endR l_)).toNat) (q15_c2)), (43, Value.int .i64 ((((d1 - (endR l_)).toNat : Nat) : Int)))]) (fun g => [(119, mone g0 (.cells [Value.pointer (some ⟨gt_, 0, none⟩), Value.pointer (some ⟨gu_, 0, none⟩), Value.slice q15_A2 (r_.length) (q15_c2)].toArray q15_E (0, 0))), (116, q15_n0), (117, q15_n1), (118, q15_n2), (114, (g.2.2)), (0, mout (wm W) (m0))]) (fun g => ((g.1) ≤ (d1 - endR l_).toNat) ∧ ((g.2.1) = sT ((r_.take (d1 - endR l_).toNat).take (g.1))) ∧ (Ow (.ptr TtableTable) (g.2.2) [.pointer (some ⟨s14_0, 0, none⟩)] (s14_0, (g.2.1)))) (fun g => (d1 - endR l_).toNat - (g.1)) (0, ([] : MapD), m14) (⟨by omega, by rfl, f14_0⟩) ⟨⟨rfl, rfl, rfl, rfl, rfl, rfl, rfl, rfl, rfl, rfl, rfl, trivial⟩, fun _ h => h.sub [119, 116, 117, 118, 114, 0]⟩ ?_
          rintro ⟨k, t, t_m⟩ ⟨hk, ht, h_t⟩
          replace hk : k ≤ (d1 - endR l_).toNat := hk
          replace ht : t = sT ((r_.take (d1 - endR l_).toNat).take k) := ht
          replace h_t : Ow (.ptr TtableTable) t_m [.pointer (some ⟨s14_0, 0, none⟩)] (s14_0, t) := h_t
          show VC _ _ _ _ _ [(44, Value.int .i64 (((k : Nat) : Int))), (0, Value.pointer (some ⟨g0, 0, none⟩)), (1, Value.int .i64 (d1)), (4, Value.int .i64 (0)), (5, Value.int .i64 (endR l_)), (6, Value.pointer (some ⟨s14_0, 0, none⟩)), (14, Value.bool (decide (False))), (20, Value.bool (decide ((endR l_ + ((r_.length : Nat) : Int)) < d1))), (30, Value.bool (decide (d1 = (endR l_)))), (42, Value.slice q15_A2 ((d1 - (endR l_)).toNat) (q15_c2)), (43, Value.int .i64 ((((d1 - (endR l_)).toNat : Nat) : Int)))] [(119, mone g0 (.cells [Value.pointer (some ⟨gt_, 0, none⟩), Value.pointer (some ⟨gu_, 0, none⟩), Value.slice q15_A2 (r_.length) (q15_c2)].toArray q15_E (0, 0))), (116, q15_n0), (117, q15_n1), (118, q15_n2), (114, t_m), (0, mout (wm W) (m0))]
          have hlk : (r_.take (d1 - endR l_).toNat).length = (d1 - endR l_).toNat := by rw [List.length_take]; omega
          refine VC.rs ?_
          refine VO.y rfl (.lss rfl rfl) ?_
          refine VO.k12 0 1 4 5 6 14 20 30 42 43 44 45 ?_
          refine VC.seq ?_
          refine VC.cond rfl (fun hc21 => ?_) (fun hc21 => ?_)
          · -- FFFFT
            refine VC.skip ?_
            refine outN ?_
            refine VC.seq ?_
            refine VC.block ?_
            refine VC.rs ?_
            obtain ⟨x22, hx22⟩ : ∃ z_, ((r_).take ((d1 - (endR l_)).toNat))[k]? = some z_ := ⟨_, List.getElem?_eq_getElem (by exact fin2_sFlush_ok)⟩
            obtain ⟨gg22, oo22, ec22, ea22, hce22, hre22⟩ := (Ow.rd (q15_2.pre (j := ((d1 - (endR l_)).toNat)) (by exact fin2_sFlush_ok)) (mle_refl _)).elem hx22
            cases ea22
            obtain ⟨q22_A2, q22_c2, rfl, q22_0, q22_1, q22_2⟩ := open_Commit (x0 := x22.1) (x1 := x22.2.1) (x2 := x22.2.2) hre22
            simp only [inK] at q22_0
            simp only [inK] at q22_1
            have q22_r2 := Rd.room q22_2
            refine VO.y rfl (.ixI k rfl rfl tsl27 rfl (by exact fin2_sFlush_ok)) ?_
            refine VO.y rfl (.ldA 118 rfl tk36 rfl hce22) ?_
            refine VO.alloc 124 rfl tz36 (fun g23 => ?_)
            refine VO.store (k := 3) (c' := [Value.int .i64 (x22.1), Value.int .i64 (x22.2.1), Value.slice q22_A2 (x22.2.2.length) (q22_c2)]) 124 rfl rfl (.inl tk36) rfl rfl rfl rfl rfl ?_
            refine VO.kp [124, 119, 116, 117, 118, 114, 0] [(124, mone g23 (.cells [Value.int .i64 (x22.1), Value.int .i64 (x22.2.1), Value.slice q22_A2 (x22.2.2.length) (q22_c2)].toArray 36 (0, 0))), (119, mone g0 (.cells [Value.pointer (some ⟨gt_, 0, none⟩), Value.pointer (some ⟨gu_, 0, none⟩), Value.slice (some ⟨gg22, oo22, none⟩) (r_.length) (q15_c2)].toArray q15_E (0, 0))), (116, q15_n0), (117, q15_n1), (118, q15_n2), (114, t_m), (0, mout (wm W) (m0))] ?_
            refine VO.k13 0 1 4 5 6 8 14 20 30 42 43 44 45 ?_
            refine VC.reg ?_
            refine VO.mv ?_
            refine VO.y rfl (.fa rfl tst36 rfl) ?_
            refine VO.y rfl (.ld1 124 rfl tk34 rfl (cellsAt_one rfl rfl)) ?_
            refine VO.call 114 rfl fnOk24 rfl rfl (fun W hW => tApply_ok W (hW.at (i := 114) rfl) h_t (Rd.mono q22_2 (hW.out (i := 114) (j := 118) rfl rfl))) (fun v25 m25 hv25 => ?_)
            obtain ⟨rfl, w25_0⟩ := hv25
            refine VO.k13 0 1 4 5 6 8 14 20 30 42 43 44 45 ?_
            refine outBN ?_
            refine outN ?_
            refine VC.reg ?_
            refine VO.y rfl (.add (c := ((k + 1 : Nat) : Int)) rfl rfl (by omega) ⟨by exact fin2_sFlush_ok, by exact fin2_sFlush_ok⟩) ?_
            refine VO.mv ?_
            refine VO.k13 0 1 4 5 6 8 14 20 30 42 43 44 45 ?_
            exact outN ⟨⟨k + 1, (mApply t x22.2.2).1, m25⟩, ⟨by omega, by (rw [ht]; exact (sT_next ‹(r_.take (d1 - endR l_).toNat)[k]? = some _›).symm), w25_0⟩, by exact fin2_sFlush_ok, ⟨⟨rfl, rfl, rfl, rfl, rfl, rfl, rfl, rfl, rfl, rfl, rfl, trivial⟩, fun _ h => Inv.sub h [119, 116, 117, 118, 114, 0]⟩⟩
          · -- FFFFF
            refine VC.exit ?_
            refine outE ?_
            refine outE ?_
            refine outBB ?_
            refine outN ?_
            refine VC.seq ?_
            refine VC.rs ?_
            have htk : t = sT (sCut l_ r_ d1) := by (rw [ht, List.take_of_length_le (by omega)]; rfl)
            have htl := sT_lenT e2 (d1 - endR l_).toNat; have htl2 : t.length ≤ 8 * r_.length := by rw [htk]; exact htl
            refine VO.mv ?_
            refine VO.call 114 rfl fnOk41 rfl rfl (fun W hW => tLen_ok W (hW.at (i := 114) rfl) h_t) (fun v26 m26 hv26 => ?_)
            obtain ⟨rfl, w26_0⟩ := hv26
            refine VO.y rfl (.gtr rfl rfl) ?_
            refine VO.kp [114, 119, 116, 117, 118, 0] [(114, m26), (119, mone g0 (.cells [Value.pointer (some ⟨gt_, 0, none⟩), Value.pointer (some ⟨gu_, 0, none⟩), Value.slice q15_A2 (r_.length) (q15_c2)].toArray q15_E (0, 0))), (116, q15_n0), (117, q15_n1), (118, q15_n2), (0, mout (wm W) (m0))] ?_
            refine VO.k13 0 1 4 5 6 14 20 30 42 43 44 45 55 ?_
            refine VC.cond rfl (fun hc27 => ?_) (fun hc27 => ?_)
            · -- FFFFFT
              refine VC.rs ?_
              refine VO.as ?_
              refine VO.k13 0 1 4 5 6 14 20 30 42 43 44 45 55 ?_
              refine VC.ret ?_
              refine outR ?_
              refine ⟨_, _, res_run (rs := [.tmp 4]) rfl (.tmp rfl .nil), fun W_ hI => out_of (l := [mone g0 (.cells [Value.pointer (some ⟨gt_, 0, none⟩), Value.pointer (some ⟨gu_, 0, none⟩), Value.slice q15_A2 (r_.length) (q15_c2)].toArray q15_E (0, 0)), q15_n0, q15_n1, q15_n2]) hI [119, 116, 117, 118] rfl rfl (mle_refl _) (fun hS_ => ?_)⟩
              dsimp only [packV]
              have hm0_ : (((gt_, (sT (sFlush D_ br_ l_ r_ d1).1.2)), (gu_, ((gd_, (sFlush D_ br_ l_ r_ d1).1.1.1), (sFlush D_ br_ l_ r_ d1).1.1.2)), (sFlush D_ br_ l_ r_ d1).1.2) : DstoreStore) = ((gt_, T_), (gu_, ((gd_, D_), br_, l_)), r_) := by first | rfl | (exact fin0_sFlush_ok)
              refine ⟨gt_, ?_, ?_⟩
              rotate_left
              · rw [hm0_]; exact (mkP_storeStore (gt_, T_) (gu_, ((gd_, D_), br_, l_)) r_ hS_ q15_0 q15_1 q15_2)
              all_goals (first | rfl | (exact fin1_sFlush_ok))
            · -- FFFFFF
              refine VC.skip ?_
              refine outN ?_
              refine VC.seq ?_
              refine VC.seq ?_
              refine VC.regD _ 11 [(0, true), (1, true), (2, true), (3, true), (4, true), (5, true), (6, true), (7, true), (8, false), (9, false), (10, true)] follows (by kernel_rfl) (fun _ h => h.sub [119, 116, 117, 118, 0]) ?_
              refine VD.y rfl rfl (.inl rfl) (.mv rfl) ?_
              refine VD.y rfl rfl (.inl rfl) (.nilp rfl) ?_
              refine VD.y rfl rfl (.inl rfl) (.fa rfl tst40 rfl) ?_
              refine VD.y rfl rfl (.inl rfl) (.ld1 119 rfl tk38 rfl (cellsAt_one rfl rfl)) ?_
              refine VD.y rfl rfl (.inl rfl) (.mv rfl) ?_
              refine VD.y rfl rfl (.inl rfl) (.add rfl rfl rfl ⟨by exact fin2_sFlush_ok, by exact fin2_sFlush_ok⟩) ?_
              refine VD.y rfl rfl (.inl rfl) (.mv rfl) ?_
              refine VD.y rfl rfl (.inl rfl) (.mv rfl) ?_
              refine VD.call 114 rfl rfl (.inl rfl) fnOk44 rfl rfl (fun _ _ h => h.sub [119, 116, 117, 118, 0]) (fun W hW => tAll_ok W (hW.at (i := 114) rfl) w26_0 (by exact fin2_sFlush_ok)) (fun v28 m28 hv28 => ?_)
              obtain ⟨s28_0, p28_0, p28_1, rfl, hS28, f28_0, w28_0⟩ := hv28
              refine VD.inv _ (fun _ h => h.parts (i := 114) rfl hS28 [129, 130]) ?_
              have hfa31 := tL_len (d := t)
              refine VD.call 129 rfl rfl (.inl rfl) fnOk43 rfl rfl (fun _ _ h => h.sub [119, 116, 117, 118, 0]) (fun W hW => coll_ok W (hW.at (i := 129) rfl) f28_0 (by exact fin2_sFlush_ok)) (fun v32 m32 hv32 => ?_)
              obtain ⟨s32_0, rfl, f32_0⟩ := hv32
              obtain ⟨A32_0, c32_0, eq32_0, l32_0, k32_0⟩ := f32_0.slice
              subst eq32_0
              simp only [maxLen] at k32_0
              refine VD.y rfl rfl (.inl rfl) (.bst (cs := [Value.int .i64 ((endR l_) + 1), Value.int .i64 (d1), Value.slice A32_0 ((tL t).length) (c32_0)]) rfl tst92 tz92 rfl) ?_
              refine VD.nil rfl ?_ rfl
              refine VO.call 117 rfl fnOk42 rfl rfl (fun W hW => uFlush_ok W (hW.at (i := 117) rfl) q15_1 (mk_Run (m := mout (wm W) (q15_n1)) ((endR l_) + 1) d1 (tL t) (by simp only [inK]; (exact fin2_sFlush_ok)) (by simp only [inK]; (exact fin2_sFlush_ok)) (OwnL.rd (Ow.ownl f32_0 rfl mnil) (hW.out (i := 117) (j := 129) rfl rfl) (mle_nil _))) (by assumption) (by exact fin2_sFlush_ok) (by assumption)) (fun v33 m33 hv33 => ?_)
              try dsimp only at hv33
              obtain ⟨rfl, w33_0⟩ := hv33
              have hfa34 := (flush_ok (br := br_) (l := l_) (x := ((endR l_) + 1, d1, (tL t))) (show okD D_ by assumption))
              have hfa35 := (flush_w (br := br_) (l := l_) (x := ((endR l_) + 1, d1, (tL t))) (show okD D_ by assumption))
              have hfa36 := (flush_okU (d := D_) (br := br_) (x := ((endR l_) + 1, d1, (tL t))) (show okU l_ by assumption))
              refine VO.as ?_
              refine VO.k14 0 1 4 5 6 9 14 20 30 42 43 44 45 55 ?_
              refine outN ?_
              refine VC.rs ?_
              refine VO.mv ?_
              refine VO.y rfl (.neq rfl rfl) ?_
              refine VO.k15 0 1 4 5 6 9 14 20 30 42 43 44 45 55 69 ?_
              refine VC.cond rfl (fun hc37 => ?_) (fun hc37 => ?_)
              · -- FFFFFFT
                refine VC.rs ?_
                refine VO.mv ?_
                refine VO.as ?_
                refine VO.kp [117, 130, 119, 116, 118, 0] [(117, m33), (130, p28_1), (119, mone g0 (.cells [Value.pointer (some ⟨gt_, 0, none⟩), Value.pointer (some ⟨gu_, 0, none⟩), Value.slice q15_A2 (r_.length) (q15_c2)].toArray q15_E (0, 0))), (116, q15_n0), (118, q15_n2), (0, mout (wm W) (m0))] ?_
                refine VO.k15 0 1 4 5 6 9 14 20 30 42 43 44 45 55 69 ?_
                refine VC.ret ?_
                refine outR ?_
                refine ⟨_, _, res_run (rs := [.tmp 4]) rfl (.tmp rfl .nil), fun W_ hI => out_of (l := [mone g0 (.cells [Value.pointer (some ⟨gt_, 0, none⟩), Value.pointer (some ⟨gu_, 0, none⟩), Value.slice q15_A2 (r_.length) (q15_c2)].toArray q15_E (0, 0)), q15_n0, m33, q15_n2]) hI [119, 116, 117, 118] rfl rfl (mle_refl _) (fun hS_ => ?_)⟩
                dsimp only [packV]
                have hm0_ : (((gt_, (sT (sFlush D_ br_ l_ r_ d1).1.2)), (gu_, ((gd_, (sFlush D_ br_ l_ r_ d1).1.1.1), (sFlush D_ br_ l_ r_ d1).1.1.2)), (sFlush D_ br_ l_ r_ d1).1.2) : DstoreStore) = ((gt_, T_), (gu_, ((gd_, (uFlush D_ br_ l_ ((endR l_) + 1, d1, (tL t))).1.1), (uFlush D_ br_ l_ ((endR l_) + 1, d1, (tL t))).1.2)), r_) := by first | rfl | (exact fin0_sFlush_ok)
                refine ⟨gt_, ?_, ?_⟩
                rotate_left
                · rw [hm0_]; exact (mkP_storeStore (gt_, T_) (gu_, ((gd_, (uFlush D_ br_ l_ ((endR l_) + 1, d1, (tL t))).1.1), (uFlush D_ br_ l_ ((endR l_) + 1, d1, (tL t))).1.2)) r_ hS_ q15_0 w33_0 q15_2)
                all_goals (first | rfl | (exact fin1_sFlush_ok))
              · -- FFFFFFF
                refine VC.skip ?_
                refine outN ?_
                refine VC.rs ?_
                refine VO.mv ?_
                refine VO.y rfl (.nilp rfl) ?_
                refine VO.y rfl (.fa rfl tst40 rfl) ?_
                refine VO.y rfl (.ld1 119 rfl tk27 rfl (cellsAt_one rfl rfl)) ?_
                refine VO.mv ?_
                refine VO.mv ?_
                refine VO.y rfl (.sub rfl rfl rfl ⟨by exact fin2_sFlush_ok, by exact fin2_sFlush_ok⟩) ?_
                obtain ⟨A38, hA38, ho38⟩ := q15_2.drop' 3 ((d1 - (endR l_)).toNat) rfl (by exact fin2_sFlush_ok)
                refine VO.y rfl (.slLI ((d1 - (endR l_)).toNat) A38 rfl rfl tsl27 (by exact fin2_sFlush_ok) hA38 (by exact fin2_sFlush_ok)) ?_
                refine VO.as ?_
                refine VO.kp [117, 130, 119, 116, 118, 0] [(117, m33), (130, p28_1), (119, mone g0 (.cells [Value.pointer (some ⟨gt_, 0, none⟩), Value.pointer (some ⟨gu_, 0, none⟩), Value.slice q15_A2 (r_.length) (q15_c2)].toArray q15_E (0, 0))), (116, q15_n0), (118, q15_n2), (0, mout (wm W) (m0))] ?_
                refine VO.k16 0 1 4 5 6 9 10 14 20 30 42 43 44 45 55 69 ?_
                refine VC.rs ?_
                refine VO.mv ?_
                refine VO.mv ?_
                refine VO.callN 139 rfl fnOk23 rfl (fun W hW => tNew_ok W ) (fun v39 m39 hv39 => ?_)
                obtain ⟨s39_0, rfl, f39_0⟩ := hv39
                refine VO.y rfl (.nilp rfl) ?_
                refine VO.y rfl (.fa rfl tst40 rfl) ?_
                refine VO.store (k := 1) (c' := [Value.pointer (some ⟨gt_, 0, none⟩), Value.pointer (some ⟨gu_, 0, none⟩), Value.slice none (0) (0)]) 119 rfl rfl (.inr ⟨tk27, rfl⟩) rfl rfl rfl rfl rfl ?_
                refine VO.y rfl (.nilp rfl) ?_
                refine VO.y rfl (.fa rfl tst40 rfl) ?_
                refine VO.store (k := 1) (c' := [Value.pointer (some ⟨s39_0, 0, none⟩), Value.pointer (some ⟨gu_, 0, none⟩), Value.slice none (0) (0)]) 119 rfl rfl (.inr ⟨tk37, rfl⟩) rfl rfl rfl rfl rfl ?_
                refine VO.k16 0 1 4 5 6 9 10 14 20 30 42 43 44 45 55 69 ?_
                refine VC.seq ?_
                refine VC.rs ?_
                refine VO.mv ?_
                refine VO.y rfl (.lenS rfl tsl27) ?_
                refine VO.mv ?_
                refine VO.k19 0 1 4 5 6 9 10 14 20 30 42 43 44 45 55 69 86 87 88 ?_
                refine VC.block ?_
                refine VC.clsP 140 [119, 139, 117] rfl (fun hg40 => (mkP_storeStore (s39_0, ([] : MapD)) (gu_, ((gd_, (uFlush D_ br_ l_ ((endR l_) + 1, d1, (tL t))).1.1), (uFlush D_ br_ l_ ((endR l_) + 1, d1, (tL t))).1.2)) [] (Seps.nilAt 3 hg40) f39_0 w33_0 (Ow.nil _ _))) (fun mc40 ho40 => ?_)
                refine VC.loop (G := Nat × DtableTable × (List DCommit) × Mem) (fun g => [(88, Value.int .i64 ((((g.1) : Nat) : Int))), (0, Value.pointer (some ⟨g0, 0, none⟩)), (1, Value.int .i64 (d1)), (4, Value.int .i64 (0)), (5, Value.int .i64 (endR l_)), (6, Value.pointer (some ⟨s14_0, 0, none⟩)), (9, Value.int .i64 ((uFlush D_ br_ l_ ((endR l_) + 1, d1, (tL t))).2)), (10, Value.slice A38 (r_.length - ((d1 - (endR l_)).toNat)) (q15_c2 - ((d1 - (endR l_)).toNat))), (14, Value.bool (decide (False))), (20, Value.bool (decide ((endR l_ + ((r_.length : Nat) : Int)) < d1))), (30, Value.bool (decide (d1 = (endR l_)))), (42, Value.slice q15_A2 ((d1 - (endR l_)).toNat) (q15_c2)), (43, Value.int .i64 ((((d1 - (endR l_)).toNat : Nat) : Int))), (44, Value.int .i64 (((k : Nat) : Int))), (45, Value.bool (decide (((k : Nat) : Int) < (((d1 - (endR l_)).toNat : Nat) : Int)))), (55, Value.bool (decide (1024 < ((t.length : Nat) : Int)))), (69, Value.bool (decide (¬ ((uFlush D_ br_ l_ ((endR l_) + 1, d1, (tL t))).2) = 0))), (86, Value.slice A38 (r_.length - ((d1 - (endR l_)).toNat)) (q15_c2 - ((d1 - (endR l_)).toNat))), (87, Value.int .i64 (((r_.length - ((d1 - (endR l_)).toNat) : Nat) : Int)))]) (fun g => [(140, (g.2.2.2)), (130, p28_1), (116, q15_n0), (118, q15_n2), (0, mout (wm W) (m0))]) (fun g => ((g.1) ≤ r_.length - (d1 - endR l_).toNat) ∧ ((g.2.2.1) = (r_.drop (d1 - endR l_).toNat).take (g.1)) ∧ ((g.2.1) = sT (g.2.2.1)) ∧ (Ow (.ptr TstoreStore) (g.2.2.2) [.pointer (some ⟨g0, 0, none⟩)] (g0, ((s39_0, (g.2.1)), (gu_, ((gd_, (uFlush D_ br_ l_ ((endR l_) + 1, d1, (tL t))).1.1), (uFlush D_ br_ l_ ((endR l_) + 1, d1, (tL t))).1.2)), (g.2.2.1))))) (fun g => r_.length - (d1 - endR l_).toNat - (g.1)) (0, ([] : MapD), [], mc40) (⟨by omega, by rfl, by rfl, ho40⟩) ⟨⟨rfl, rfl, rfl, rfl, rfl, rfl, rfl, rfl, rfl, rfl, rfl, rfl, rfl, rfl, rfl, rfl, rfl, rfl, rfl, trivial⟩, fun _ h => h.sub [140, 130, 116, 118, 0]⟩ ?_
                rintro ⟨j, w_0, w_2, w_m⟩ ⟨hj, hw2, hw0, h_w⟩
                replace hj : j ≤ r_.length - (d1 - endR l_).toNat := hj
                replace hw2 : w_2 = (r_.drop (d1 - endR l_).toNat).take j := hw2
                replace hw0 : w_0 = sT w_2 := hw0
                replace h_w : Ow (.ptr TstoreStore) w_m [.pointer (some ⟨g0, 0, none⟩)] (g0, ((s39_0, w_0), (gu_, ((gd_, (uFlush D_ br_ l_ ((endR l_) + 1, d1, (tL t))).1.1), (uFlush D_ br_ l_ ((endR l_) + 1, d1, (tL t))).1.2)), w_2)) := h_w
                show VC _ _ _ _ _ [(88, Value.int .i64 (((j : Nat) : Int))), (0, Value.pointer (some ⟨g0, 0, none⟩)), (1, Value.int .i64 (d1)), (4, Value.int .i64 (0)), (5, Value.int .i64 (endR l_)), (6, Value.pointer (some ⟨s14_0, 0, none⟩)), (9, Value.int .i64 ((uFlush D_ br_ l_ ((endR l_) + 1, d1, (tL t))).2)), (10, Value.slice A38 (r_.length - ((d1 - (endR l_)).toNat)) (q15_c2 - ((d1 - (endR l_)).toNat))), (14, Value.bool (decide (False))), (20, Value.bool (decide ((endR l_ + ((r_.length : Nat) : Int)) < d1))), (30, Value.bool (decide (d1 = (endR l_)))), (42, Value.slice q15_A2 ((d1 - (endR l_)).toNat) (q15_c2)), (43, Value.int .i64 ((((d1 - (endR l_)).toNat : Nat) : Int))), (44, Value.int .i64 (((k : Nat) : Int))), (45, Value.bool (decide (((k : Nat) : Int) < (((d1 - (endR l_)).toNat : Nat) : Int)))), (55, Value.bool (decide (1024 < ((t.length : Nat) : Int)))), (69, Value.bool (decide (¬ ((uFlush D_ br_ l_ ((endR l_) + 1, d1, (tL t))).2) = 0))), (86, Value.slice A38 (r_.length - ((d1 - (endR l_)).toNat)) (q15_c2 - ((d1 - (endR l_)).toNat))), (87, Value.int .i64 (((r_.length - ((d1 - (endR l_)).toNat) : Nat) : Int)))] [(140, w_m), (130, p28_1), (116, q15_n0), (118, q15_n2), (0, mout (wm W) (m0))]
                have hld : (r_.drop (d1 - endR l_).toNat).length = r_.length - (d1 - endR l_).toNat := List.length_drop
                have hlw : w_2.length ≤ j := by rw [hw2, List.length_take]; omega
                refine VC.rs ?_
                refine VO.y rfl (.lss rfl rfl) ?_
                refine VO.kp [140, 130, 116, 118, 0] [(140, w_m), (130, p28_1), (116, q15_n0), (118, q15_n2), (0, mout (wm W) (m0))] ?_
                refine VO.k20 0 1 4 5 6 9 10 14 20 30 42 43 44 45 55 69 86 87 88 89 ?_
                refine VC.seq ?_
                refine VC.cond rfl (fun hc41 => ?_) (fun hc41 => ?_)
                · -- FFFFFFFT
                  refine VC.skip ?_
                  refine outN ?_
                  refine VC.seq ?_
                  refine VC.block ?_
                  refine VC.rs ?_
                  obtain ⟨x42, hx42⟩ : ∃ z_, (r_.drop ((d1 - (endR l_)).toNat))[j]? = some z_ := ⟨_, List.getElem?_eq_getElem (by exact fin2_sFlush_ok)⟩
                  obtain ⟨gg42, oo42, ec42, ea42, hce42, hre42⟩ := (Ow.rd ho38 (mle_refl _)).elem hx42
                  cases ea42
                  obtain ⟨q42_A2, q42_c2, rfl, q42_0, q42_1, q42_2⟩ := open_Commit (x0 := x42.1) (x1 := x42.2.1) (x2 := x42.2.2) hre42
                  simp only [inK] at q42_0
                  simp only [inK] at q42_1
                  have q42_r2 := Rd.room q42_2
                  refine VO.y rfl (.ixI j rfl rfl tsl27 rfl (by exact fin2_sFlush_ok)) ?_
                  refine VO.y rfl (.ldA 118 rfl tk36 rfl hce42) ?_
                  refine VO.alloc 144 rfl tz36 (fun g43 => ?_)
                  refine VO.store (k := 3) (c' := [Value.int .i64 (x42.1), Value.int .i64 (x42.2.1), Value.slice q42_A2 (x42.2.2.length) (q42_c2)]) 144 rfl rfl (.inl tk36) rfl rfl rfl rfl rfl ?_
                  refine VO.k21 0 1 4 5 6 9 10 12 14 20 30 42 43 44 45 55 69 86 87 88 89 ?_
                  refine VC.reg ?_
                  refine VO.mv ?_
                  refine VO.y rfl (.ldA 144 rfl tk36 rfl (cellsAt_one rfl rfl)) ?_
                  refine VO.call 140 rfl fnOk45 rfl rfl (fun W hW => sTake_ok W (hW.at (i := 140) rfl) h_w (Rd.mono hre42 (hW.out (i := 140) (j := 118) rfl rfl)) (by first | assumption | rfl) (by exact fin2_sFlush_ok) (by exact fin2_sFlush_ok)) (fun v45 m45 hv45 => ?_)
                  try dsimp only at hv45
                  obtain ⟨rfl, w45_0⟩ := hv45
                  refine VO.k21 0 1 4 5 6 9 10 12 14 20 30 42 43 44 45 55 69 86 87 88 89 ?_
                  refine outBN ?_
                  refine outN ?_
                  refine VC.reg ?_
                  refine VO.y rfl (.add (c := ((j + 1 : Nat) : Int)) rfl rfl (by omega) ⟨by exact fin2_sFlush_ok, by exact fin2_sFlush_ok⟩) ?_
                  refine VO.mv ?_
                  refine VO.kp [140, 144, 130, 116, 118, 0] [(140, m45), (144, mone g43 (.cells [Value.int .i64 (x42.1), Value.int .i64 (x42.2.1), Value.slice q42_A2 (x42.2.2.length) (q42_c2)].toArray 36 (0, 0))), (130, p28_1), (116, q15_n0), (118, q15_n2), (0, mout (wm W) (m0))] ?_
                  refine VO.k21 0 1 4 5 6 9 10 12 14 20 30 42 43 44 45 55 69 86 87 88 89 ?_
                  exact outN ⟨⟨j + 1, (sT (w_2 ++ [x42])), w_2 ++ [x42], m45⟩, ⟨by omega, by (rw [hw2]; exact (take_one ‹(r_.drop (d1 - endR l_).toNat)[j]? = some _›).symm), by rfl, w45_0⟩, by exact fin2_sFlush_ok, ⟨⟨rfl, rfl, rfl, rfl, rfl, rfl, rfl, rfl, rfl, rfl, rfl, rfl, rfl, rfl, rfl, rfl, rfl, rfl, rfl, trivial⟩, fun _ h => Inv.sub h [140, 130, 116, 118, 0]⟩⟩
                · -- FFFFFFFF
                  refine VC.exit ?_
                  refine outE ?_
                  refine outE ?_
                  refine outBB ?_
                  refine outN ?_
                  refine VC.rs ?_
                  refine VO.as ?_
                  refine VO.k20 0 1 4 5 6 9 10 14 20 30 42 43 44 45 55 69 86 87 88 89 ?_
                  refine VC.ret ?_
                  refine ⟨_, _, res_run (rs := [.tmp 4]) rfl (.tmp rfl .nil), fun W_ hI => out_of (l := [w_m]) hI [140] rfl rfl (mle_refl _) (fun hS_ => ?_)⟩
                  dsimp only [packV]
                  have hm0_ : (((s39_0, (sT (sFlush D_ br_ l_ r_ d1).1.2)), (gu_, ((gd_, (sFlush D_ br_ l_ r_ d1).1.1.1), (sFlush D_ br_ l_ r_ d1).1.1.2)), (sFlush D_ br_ l_ r_ d1).1.2) : DstoreStore) = ((s39_0, w_0), (gu_, ((gd_, (uFlush D_ br_ l_ ((endR l_) + 1, d1, (tL t))).1.1), (uFlush D_ br_ l_ ((endR l_) + 1, d1, (tL t))).1.2)), w_2) := by first | rfl | (exact fin0_sFlush_ok)
                  refine ⟨s39_0, ?_, ?_⟩
                  rotate_left
                  · rw [hm0_]; exact (Ow.up h_w (hS_.1 _ (.head _)))
                  all_goals (first | rfl | (exact fin1_sFlush_ok))
theorem ru0l : (runF (dRead newD 2).1).1 = [] := by decide +kernel
end Go.Proofs.YtonbpfncmlijnaaGreat
