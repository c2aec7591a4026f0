/- Part 5 of the proof of LWalKeeps: what it needs of the library, the walks and the plain laws. Conditions: those named in each theorem. -/
import Derived.Test.YtdoamgdanlnlfaaLWalKeepsM4
namespace Go.Proofs.Ytdoamgdanlnlfaa
section
set_option linter.unusedVariables false
set_option linter.unusedSimpArgs false
set_option maxRecDepth 4000
theorem fnOk20 : fnOk Try.prog 20 = true := by kernel_rfl
theorem fnOk26 : fnOk Try.prog 26 = true := by kernel_rfl
theorem fnOk31 : fnOk Try.prog 31 = true := by kernel_rfl
theorem fnOk36 : fnOk Try.prog 36 = true := by kernel_rfl
theorem fnOk40 : fnOk Try.prog 40 = true := by kernel_rfl
theorem fnOk41 : fnOk Try.prog 41 = true := by kernel_rfl
theorem fnOk50 : fnOk Try.prog 50 = true := by kernel_rfl
theorem fnOk51 : fnOk Try.prog 51 = true := by kernel_rfl
theorem fnOk52 : fnOk Try.prog 52 = true := by kernel_rfl
theorem fnOk53 : fnOk Try.prog 53 = true := by kernel_rfl
theorem fnOk55 : fnOk Try.prog 55 = true := by kernel_rfl
theorem fnOk56 : fnOk Try.prog 56 = true := by kernel_rfl
theorem fnOk57 : fnOk Try.prog 57 = true := by kernel_rfl
theorem fnOk58 : fnOk Try.prog 58 = true := by kernel_rfl
theorem fnOk64 : fnOk Try.prog 64 = true := by kernel_rfl
theorem tk37 : tk Try.prog 37 = some none := by kernel_rfl
theorem tst58 : tst Try.prog 58 = some [(0, 1), (1, 1), (2, 1), (3, 1)] := by kernel_rfl
theorem tz58 : tz Try.prog 58 = some [.pointer none, .bool false, .slice none 0 0, .slice none 0 0] := by kernel_rfl
theorem wLength_ok (W : World) {v0 : Value} {d0 : List Int} (h0 : Rd (.sl (.int .i64)) (wm W) [v0] d0) : CallR Try.prog 41 [v0] W (mnil) (fun v m' => v = .int .i64 (lenW d0)) := by
  obtain ⟨A0, c0, rfl, l0, k0⟩ := h0.slice
  simp only [maxLen] at k0
  refine CallR.ofA (n := 12) Try.func41 rfl rfl rfl ?_
  refine VC.rs ?_
  refine VO.as ?_
  refine VO.k2 0 2 ?_
  refine VC.seq ?_
  refine VC.rs ?_
  refine VO.mv ?_
  refine VO.y rfl (.lenS rfl tsl56) ?_
  refine VO.y rfl (.eql rfl rfl) ?_
  refine VO.k3 0 2 5 ?_
  refine VC.cond rfl (fun hc1 => ?_) (fun hc1 => ?_)
  · -- T
    refine VC.rs ?_
    refine VO.as ?_
    refine VO.kp [0] [(0, wm W)] ?_
    refine VO.k3 0 2 5 ?_
    refine VC.ret ?_
    refine outR ?_
    refine ⟨_, _, res_run (rs := [.tmp 2]) rfl (.tmp rfl .nil), fun W_ hI => out_of (l := []) hI [] rfl rfl (mle_refl _) (fun hS_ => ?_)⟩
    dsimp only [packV]
    all_goals (first | rfl | (first | exact congrArg (Value.int _) (lenW_at ‹d0[_]? = some _› (by omega)).symm | exact congrArg (Value.int _) (lenW_nil (by omega)).symm))
  · -- F
    refine VC.skip ?_
    refine outN ?_
    refine VC.rs ?_
    refine VO.mv ?_
    refine VO.mv ?_
    refine VO.y rfl (.lenS rfl tsl56) ?_
    refine VO.y rfl (.sub rfl rfl rfl ⟨bd, bd⟩) ?_
    obtain ⟨x2, hx2⟩ : ∃ z_, (d0)[(((d0.length : Nat) : Int) - 1).toNat]? = some z_ := ⟨_, List.getElem?_eq_getElem bd⟩
    obtain ⟨gg2, oo2, ec2, ea2, hce2, hre2⟩ := h0.elem hx2
    cases ea2
    obtain ⟨rfl, q2⟩ := hre2; simp only [inK] at q2
    refine VO.y rfl (.ixI ((((d0.length : Nat) : Int) - 1).toNat) rfl rfl tsl56 bd bd) ?_
    refine VO.y rfl (.ld1 0 rfl tk3 rfl hce2) ?_
    refine VO.as ?_
    refine VO.kp [0] [(0, wm W)] ?_
    refine VO.k3 0 2 5 ?_
    refine VC.ret ?_
    refine ⟨_, _, res_run (rs := [.tmp 2]) rfl (.tmp rfl .nil), fun W_ hI => out_of (l := []) hI [] rfl rfl (mle_refl _) (fun hS_ => ?_)⟩
    dsimp only [packV]
    all_goals (first | rfl | (first | exact congrArg (Value.int _) (lenW_at ‹d0[_]? = some _› (by omega)).symm | exact congrArg (Value.int _) (lenW_nil (by omega)).symm))
theorem wNone_ok (W : World) {es_ : List Int} {l_ : List DCommit} {br_ : Bool} {D_ : DdiskDisk} {gd_ : Nat} {m0 : Mem} (hm : mle (m0) (wm W)) {g0 : Nat} (h0 : Ow (.ptr TwalWal) m0 [.pointer (some ⟨g0, 0, none⟩)] (g0, ((gd_, D_), br_, l_, es_))) : CallR Try.prog 64 [.pointer (some ⟨g0, 0, none⟩)] W (m0) (fun v m' => v = .bool (decide (False)) ∧ Ow (.ptr TwalWal) m' [.pointer (some ⟨g0, 0, none⟩)] (g0, ((gd_, D_), br_, l_, es_))) := by
  refine CallR.ofB (n := 12) hm Try.func64 rfl rfl rfl ?_
  refine VC.rs ?_
  refine VO.as ?_
  refine VO.k2 0 2 ?_
  refine VC.rs ?_
  refine VO.mv ?_
  refine VO.y rfl (.pnil rfl rfl Try.underlying33 rfl) ?_
  refine VO.mv ?_
  refine VO.gy rfl ⟨_, rfl, rfl⟩ (.mv rfl) ?_
  refine VO.gy rfl ⟨_, rfl, rfl⟩ (.nilp rfl) ?_
  refine VO.gy rfl ⟨_, rfl, rfl⟩ (.fa rfl tst58 rfl) ?_
  obtain ⟨q1_E, q1_A2, q1_c2, q1_A3, q1_c3, q1_n0, q1_n2, q1_n3, _, q1_S, q1_0, q1_2, q1_3⟩ := openP_walWal (x0 := (gd_, D_)) (x1 := br_) (x2 := l_) (x3 := es_) h0
  dsimp only at q1_0
  have q1_r2 := q1_2.rm
  have q1_r3 := q1_3.rm
  refine VO.inv _ (fun _ h => h.parts (i := 1) rfl q1_S [105, 102, 103, 104]) ?_
  refine VO.gy rfl ⟨_, rfl, rfl⟩ (.ld1 105 rfl tk37 rfl (cellsAt_one rfl rfl)) ?_
  refine VO.gy rfl ⟨_, rfl, rfl⟩ (.pnil rfl rfl Try.underlying37 rfl) ?_
  refine VO.y rfl (.pF rfl rfl) ?_
  refine VO.as ?_
  refine VO.clsP 106 [105, 102, 103, 104] rfl (fun hg6 => (mkP_walWal (gd_, D_) br_ l_ es_ hg6 q1_0 q1_2 (OwnL.ow (Ow.ownl q1_3 rfl mnil) rfl))) (fun mc6 ho6 => ?_)
  refine VO.k2 0 2 ?_
  refine VC.ret ?_
  refine ⟨_, _, res_run (rs := [.tmp 2]) rfl (.tmp rfl .nil), fun W_ hI => out_of (l := [mc6]) hI [106] rfl rfl (mle_refl _) (fun hS_ => ?_)⟩
  dsimp only [packV]
  have hm0_ : (((gd_, D_), br_, l_, es_) : DwalWal) = ((gd_, D_), br_, l_, es_) := by first | rfl | (simp [*]; done)
  refine ⟨?_, ?_⟩
  rotate_left
  · rw [hm0_]; exact (Ow.up ho6 (hS_.1 _ (.head _)))
  all_goals (first | rfl | (simp [*]; done))
theorem wEnd_ok (W : World) {es_ : List Int} {l_ : List DCommit} {br_ : Bool} {D_ : DdiskDisk} {gd_ : Nat} {m0 : Mem} (hm : mle (m0) (wm W)) {g0 : Nat} (h0 : Ow (.ptr TwalWal) m0 [.pointer (some ⟨g0, 0, none⟩)] (g0, ((gd_, D_), br_, l_, es_))) : CallR Try.prog 31 [.pointer (some ⟨g0, 0, none⟩)] W (m0) (fun v m' => v = .int .i64 ((l_.length : Nat) : Int) ∧ Ow (.ptr TwalWal) m' [.pointer (some ⟨g0, 0, none⟩)] (g0, ((gd_, D_), br_, l_, es_))) := by
  refine CallR.ofB (n := 10) hm Try.func31 rfl rfl rfl ?_
  refine VC.rs ?_
  refine VO.as ?_
  refine VO.k2 0 2 ?_
  refine VC.seq ?_
  refine VC.rs ?_
  refine VO.mv ?_
  refine VO.call 1 rfl fnOk64 rfl rfl (fun W hW => wNone_ok W (hW.at (i := 1) rfl) h0) (fun v1 m1 hv1 => ?_)
  try dsimp only at hv1
  obtain ⟨rfl, w1_0⟩ := hv1
  refine VO.k3 0 2 4 ?_
  refine VC.cond rfl (fun hc2 => ?_) (fun hc2 => ?_)
  · -- T
    exact hc2.elim
  · -- F
    refine VC.skip ?_
    refine outN ?_
    refine VC.rs ?_
    refine VO.mv ?_
    refine VO.y rfl (.nilp rfl) ?_
    refine VO.y rfl (.fa rfl tst58 rfl) ?_
    obtain ⟨q3_E, q3_A2, q3_c2, q3_A3, q3_c3, q3_n0, q3_n2, q3_n3, _, q3_S, q3_0, q3_2, q3_3⟩ := openP_walWal (x0 := (gd_, D_)) (x1 := br_) (x2 := l_) (x3 := es_) w1_0
    dsimp only at q3_0
    have q3_r2 := q3_2.rm
    have q3_r3 := q3_3.rm
    refine VO.inv _ (fun _ h => h.parts (i := 1) rfl q3_S [107, 104, 105, 106]) ?_
    refine VO.y rfl (.ld1 107 rfl tk25 rfl (cellsAt_one rfl rfl)) ?_
    refine VO.y rfl (.lenS rfl tsl25) ?_
    refine VO.as ?_
    refine VO.clsP 108 [107, 104, 105, 106] rfl (fun hg8 => (mkP_walWal (gd_, D_) br_ l_ es_ hg8 q3_0 q3_2 (OwnL.ow (Ow.ownl q3_3 rfl mnil) rfl))) (fun mc8 ho8 => ?_)
    refine VO.kp [108, 0] [(108, mc8), (0, mout (wm W) (m0))] ?_
    refine VO.k3 0 2 4 ?_
    refine VC.ret ?_
    refine ⟨_, _, res_run (rs := [.tmp 2]) rfl (.tmp rfl .nil), fun W_ hI => out_of (l := [mc8]) hI [108] rfl rfl (mle_refl _) (fun hS_ => ?_)⟩
    dsimp only [packV]
    have hm0_ : (((gd_, D_), br_, l_, es_) : DwalWal) = ((gd_, D_), br_, l_, es_) := by first | rfl | (simp [*]; done)
    refine ⟨?_, ?_⟩
    rotate_left
    · rw [hm0_]; exact (Ow.up ho8 (hS_.1 _ (.head _)))
    all_goals (first | rfl | (simp [*]; done))
theorem wEpoch_ok (W : World) {es_ : List Int} {l_ : List DCommit} {br_ : Bool} {D_ : DdiskDisk} {gd_ : Nat} {m0 : Mem} (hm : mle (m0) (wm W)) {g0 : Nat} (h0 : Ow (.ptr TwalWal) m0 [.pointer (some ⟨g0, 0, none⟩)] (g0, ((gd_, D_), br_, l_, es_))) : CallR Try.prog 20 [.pointer (some ⟨g0, 0, none⟩)] W (m0) (fun v m' => v = .int .i64 (lastOr 0 l_) ∧ Ow (.ptr TwalWal) m' [.pointer (some ⟨g0, 0, none⟩)] (g0, ((gd_, D_), br_, l_, es_))) := by
  refine CallR.ofB (n := 19) hm Try.func20 rfl rfl rfl ?_
  refine VC.rs ?_
  refine VO.as ?_
  refine VO.k2 0 2 ?_
  refine VC.seq ?_
  refine VC.rs ?_
  refine VO.mv ?_
  refine VO.call 1 rfl fnOk31 rfl rfl (fun W hW => wEnd_ok W (hW.at (i := 1) rfl) h0) (fun v1 m1 hv1 => ?_)
  try dsimp only at hv1
  obtain ⟨rfl, w1_0⟩ := hv1
  refine VO.y rfl (.eql rfl rfl) ?_
  refine VO.k3 0 2 5 ?_
  refine VC.cond rfl (fun hc2 => ?_) (fun hc2 => ?_)
  · -- T
    refine VC.rs ?_
    refine VO.as ?_
    refine VO.kp [1, 0] [(1, m1), (0, mout (wm W) (m0))] ?_
    refine VO.k3 0 2 5 ?_
    refine VC.ret ?_
    refine outR ?_
    refine ⟨_, _, res_run (rs := [.tmp 2]) rfl (.tmp rfl .nil), fun W_ hI => out_of (l := [m1]) hI [1] rfl rfl (mle_refl _) (fun hS_ => ?_)⟩
    dsimp only [packV]
    have hm0_ : (((gd_, D_), br_, l_, es_) : DwalWal) = ((gd_, D_), br_, l_, es_) := by first | rfl | (simp [*]; done)
    refine ⟨?_, ?_⟩
    rotate_left
    · rw [hm0_]; exact (Ow.up w1_0 (hS_.1 _ (.head _)))
    all_goals (first | rfl | (first | exact congrArg (Value.int _) (lastOr_at ‹l_[_]? = some _› (by omega)).symm | exact congrArg (Value.int _) (lastOr_nil (by omega)).symm))
  · -- F
    refine VC.skip ?_
    refine outN ?_
    refine VC.seq ?_
    obtain ⟨q3_E, q3_A2, q3_c2, q3_A3, q3_c3, q3_n0, q3_n2, q3_n3, _, q3_S, q3_0, q3_2, q3_3⟩ := openP_walWal (x0 := (gd_, D_)) (x1 := br_) (x2 := l_) (x3 := es_) w1_0
    dsimp only at q3_0
    have q3_r2 := q3_2.rm
    have q3_r3 := q3_3.rm
    refine VC.inv _ (fun _ h => h.parts (i := 1) rfl q3_S [107, 104, 105, 106]) ?_
    refine VC.regD _ 10 [(0, true), (1, true), (2, true), (3, true), (4, true), (5, true), (6, true), (7, true), (8, true), (9, true)] follows (by kernel_rfl) (fun _ h => h.sub [107, 104, 105, 106, 0]) ?_
    refine VD.y rfl rfl (.inl rfl) (.mv rfl) ?_
    refine VD.y rfl rfl (.inl rfl) (.nilp rfl) ?_
    refine VD.y rfl rfl (.inl rfl) (.fa rfl tst58 rfl) ?_
    refine VD.y rfl rfl (.inl rfl) (.ld1 107 rfl tk25 rfl (cellsAt_one rfl rfl)) ?_
    refine VD.y rfl rfl (.inl rfl) (.mv rfl) ?_
    refine VD.y rfl rfl (.inl rfl) (.nilp rfl) ?_
    refine VD.y rfl rfl (.inl rfl) (.fa rfl tst58 rfl) ?_
    refine VD.y rfl rfl (.inl rfl) (.ld1 107 rfl tk25 rfl (cellsAt_one rfl rfl)) ?_
    refine VD.y rfl rfl (.inl rfl) (.lenS rfl tsl25) ?_
    refine VD.y rfl rfl (.inl rfl) (.sub rfl rfl rfl ⟨bd, bd⟩) ?_
    refine VD.nil rfl ?_ rfl
    obtain ⟨x8, hx8⟩ : ∃ z_, (l_)[(((l_.length : Nat) : Int) - 1).toNat]? = some z_ := ⟨_, List.getElem?_eq_getElem bd⟩
    obtain ⟨gg8, oo8, ec8, ea8, hce8, hre8⟩ := (Ow.rd q3_2 (mle_refl _)).elem hx8
    cases ea8
    obtain ⟨q8_A2, q8_c2, rfl, q8_0, q8_1, q8_2⟩ := open_Commit (x0 := x8.1) (x1 := x8.2.1) (x2 := x8.2.2) hre8
    simp only [inK] at q8_0
    simp only [inK] at q8_1
    have q8_r2 := Rd.room q8_2
    refine VO.y rfl (.ixI ((((l_.length : Nat) : Int) - 1).toNat) rfl rfl tsl25 bd bd) ?_
    refine VO.y rfl (.fa rfl tst42 rfl) ?_
    refine VO.y rfl (.ld1 105 rfl tk3 rfl (hce8.at1 (j := 0) rfl)) ?_
    refine VO.as ?_
    refine VO.clsP 109 [107, 104, 105, 106] rfl (fun hg9 => (mkP_walWal (gd_, D_) br_ l_ es_ hg9 q3_0 q3_2 (OwnL.ow (Ow.ownl q3_3 rfl mnil) rfl))) (fun mc9 ho9 => ?_)
    refine VO.kp [109, 0] [(109, mc9), (0, mout (wm W) (m0))] ?_
    refine VO.k3 0 2 5 ?_
    refine outN ?_
    refine VC.ret ?_
    refine ⟨_, _, res_run (rs := [.tmp 2]) rfl (.tmp rfl .nil), fun W_ hI => out_of (l := [mc9]) hI [109] rfl rfl (mle_refl _) (fun hS_ => ?_)⟩
    dsimp only [packV]
    have hm0_ : (((gd_, D_), br_, l_, es_) : DwalWal) = ((gd_, D_), br_, l_, es_) := by first | rfl | (simp [*]; done)
    refine ⟨?_, ?_⟩
    rotate_left
    · rw [hm0_]; exact (Ow.up ho9 (hS_.1 _ (.head _)))
    all_goals (first | rfl | (first | exact congrArg (Value.int _) (lastOr_at ‹l_[_]? = some _› (by omega)).symm | exact congrArg (Value.int _) (lastOr_nil (by omega)).symm))
theorem wLen_ok (W : World) {es_ : List Int} {l_ : List DCommit} {br_ : Bool} {D_ : DdiskDisk} {gd_ : Nat} {m0 : Mem} (hm : mle (m0) (wm W)) {g0 : Nat} (h0 : Ow (.ptr TwalWal) m0 [.pointer (some ⟨g0, 0, none⟩)] (g0, ((gd_, D_), br_, l_, es_))) : CallR Try.prog 33 [.pointer (some ⟨g0, 0, none⟩)] W (m0) (fun v m' => v = .int .i64 (lenW es_) ∧ Ow (.ptr TwalWal) m' [.pointer (some ⟨g0, 0, none⟩)] (g0, ((gd_, D_), br_, l_, es_))) := by
  refine CallR.ofB (n := 10) hm Try.func33 rfl rfl rfl ?_
  refine VC.rs ?_
  refine VO.as ?_
  refine VO.k2 0 2 ?_
  refine VC.seq ?_
  refine VC.rs ?_
  refine VO.mv ?_
  refine VO.call 1 rfl fnOk64 rfl rfl (fun W hW => wNone_ok W (hW.at (i := 1) rfl) h0) (fun v1 m1 hv1 => ?_)
  try dsimp only at hv1
  obtain ⟨rfl, w1_0⟩ := hv1
  refine VO.k3 0 2 4 ?_
  refine VC.cond rfl (fun hc2 => ?_) (fun hc2 => ?_)
  · -- T
    exact hc2.elim
  · -- F
    refine VC.skip ?_
    refine outN ?_
    refine VC.rs ?_
    refine VO.mv ?_
    refine VO.y rfl (.nilp rfl) ?_
    refine VO.y rfl (.fa rfl tst58 rfl) ?_
    obtain ⟨q3_E, q3_A2, q3_c2, q3_A3, q3_c3, q3_n0, q3_n2, q3_n3, _, q3_S, q3_0, q3_2, q3_3⟩ := openP_walWal (x0 := (gd_, D_)) (x1 := br_) (x2 := l_) (x3 := es_) w1_0
    dsimp only at q3_0
    have q3_r2 := q3_2.rm
    have q3_r3 := q3_3.rm
    refine VO.inv _ (fun _ h => h.parts (i := 1) rfl q3_S [107, 104, 105, 106]) ?_
    refine VO.y rfl (.ld1 107 rfl tk56 rfl (cellsAt_one rfl rfl)) ?_
    refine VO.callN 108 rfl fnOk41 rfl (fun W hW => wLength_ok W (OwnL.rd (Ow.ownl q3_3 rfl mnil) (hW.at (i := 106) rfl) (mle_nil _))) (fun v8 m8 hv8 => ?_)
    subst hv8
    refine VO.as ?_
    refine VO.clsP 109 [107, 104, 105, 106] rfl (fun hg9 => (mkP_walWal (gd_, D_) br_ l_ es_ hg9 q3_0 q3_2 (OwnL.ow (Ow.ownl q3_3 rfl mnil) rfl))) (fun mc9 ho9 => ?_)
    refine VO.kp [109, 0] [(109, mc9), (0, mout (wm W) (m0))] ?_
    refine VO.k3 0 2 4 ?_
    refine VC.ret ?_
    refine ⟨_, _, res_run (rs := [.tmp 2]) rfl (.tmp rfl .nil), fun W_ hI => out_of (l := [mc9]) hI [109] rfl rfl (mle_refl _) (fun hS_ => ?_)⟩
    dsimp only [packV]
    have hm0_ : (((gd_, D_), br_, l_, es_) : DwalWal) = ((gd_, D_), br_, l_, es_) := by first | rfl | (simp [*]; done)
    refine ⟨?_, ?_⟩
    rotate_left
    · rw [hm0_]; exact (Ow.up ho9 (hS_.1 _ (.head _)))
    all_goals (first | rfl | (simp [*]; done))
theorem wTried_ok (W : World) {es_ : List Int} {l_ : List DCommit} {br_ : Bool} {D_ : DdiskDisk} {gd_ : Nat} {m0 : Mem} (hm : mle (m0) (wm W)) {g0 : Nat} (h0 : Ow (.ptr TwalWal) m0 [.pointer (some ⟨g0, 0, none⟩)] (g0, ((gd_, D_), br_, l_, es_))) (d1 : Int) (h1 : inK .i64 d1) : CallR Try.prog 56 [.pointer (some ⟨g0, 0, none⟩), .int .i64 d1] W (m0) (fun v m' => v = .int .i64 (d1) ∧ Ow (.ptr TwalWal) m' [.pointer (some ⟨g0, 0, none⟩)] (g0, ((gd_, D_), br_ || decide (¬ d1 = 0), l_, es_))) := by
  have h1' := h1; simp only [inK] at h1'
  refine CallR.ofB (n := 11) hm Try.func56 rfl rfl rfl ?_
  refine VC.rs ?_
  refine VO.as ?_
  refine VO.k3 0 1 4 ?_
  refine VC.seq ?_
  refine VC.rs ?_
  refine VO.mv ?_
  refine VO.y rfl (.neq rfl rfl) ?_
  refine VO.k4 0 1 4 6 ?_
  refine VC.cond rfl (fun hc1 => ?_) (fun hc1 => ?_)
  · -- T
    refine VC.reg ?_
    refine VO.mv ?_
    refine VO.y rfl (.nilp rfl) ?_
    refine VO.y rfl (.fa rfl tst58 rfl) ?_
    obtain ⟨q2_E, q2_A2, q2_c2, q2_A3, q2_c3, q2_n0, q2_n2, q2_n3, _, q2_S, q2_0, q2_2, q2_3⟩ := openP_walWal (x0 := (gd_, D_)) (x1 := br_) (x2 := l_) (x3 := es_) h0
    dsimp only at q2_0
    have q2_r2 := q2_2.rm
    have q2_r3 := q2_3.rm
    refine VO.inv _ (fun _ h => h.parts (i := 1) rfl q2_S [106, 103, 104, 105]) ?_
    refine VO.store (k := 1) (c' := [Value.pointer (some ⟨gd_, 0, none⟩), Value.bool true, Value.slice q2_A2 (l_.length) (q2_c2), Value.slice q2_A3 (es_.length) (q2_c3)]) 106 rfl rfl (.inr ⟨tk4, rfl⟩) rfl rfl rfl rfl rfl ?_
    refine VO.clsP 107 [106, 103, 104, 105] rfl (fun hg7 => (mkP_walWal (gd_, D_) true l_ es_ hg7 q2_0 q2_2 (OwnL.ow (Ow.ownl q2_3 rfl mnil) rfl))) (fun mc7 ho7 => ?_)
    refine VO.kp [107, 0] [(107, mc7), (0, mout (wm W) (m0))] ?_
    refine VO.k4 0 1 4 6 ?_
    refine outN ?_
    refine VC.rs ?_
    refine VO.mv ?_
    refine VO.as ?_
    refine VO.k4 0 1 4 6 ?_
    refine VC.ret ?_
    refine ⟨_, _, res_run (rs := [.tmp 4]) rfl (.tmp rfl .nil), fun W_ hI => out_of (l := [mc7]) hI [107] rfl rfl (mle_refl _) (fun hS_ => ?_)⟩
    dsimp only [packV]
    have hm0_ : (((gd_, D_), br_ || decide (¬ d1 = 0), l_, es_) : DwalWal) = ((gd_, D_), true, l_, es_) := by first | rfl | (simp [*]; done)
    refine ⟨?_, ?_⟩
    rotate_left
    · rw [hm0_]; exact (Ow.up ho7 (hS_.1 _ (.head _)))
    all_goals (first | rfl | (simp [*]; done))
  · -- F
    refine VC.skip ?_
    refine outN ?_
    refine VC.rs ?_
    refine VO.mv ?_
    refine VO.as ?_
    refine VO.kp [0, 1] [(0, mout (wm W) (m0)), (1, m0)] ?_
    refine VO.k4 0 1 4 6 ?_
    refine VC.ret ?_
    refine ⟨_, _, res_run (rs := [.tmp 4]) rfl (.tmp rfl .nil), fun W_ hI => out_of (l := [m0]) hI [1] rfl rfl (mle_refl _) (fun hS_ => ?_)⟩
    dsimp only [packV]
    have hm0_ : (((gd_, D_), br_ || decide (¬ d1 = 0), l_, es_) : DwalWal) = ((gd_, D_), br_, l_, es_) := by first | rfl | (simp [*]; done)
    refine ⟨?_, ?_⟩
    rotate_left
    · rw [hm0_]; exact (Ow.up h0 (hS_.1 _ (.head _)))
    all_goals (first | rfl | (simp [*]; done))
theorem wWrong_ok (W : World) {es_ : List Int} {l_ : List DCommit} {br_ : Bool} {D_ : DdiskDisk} {gd_ : Nat} {m0 : Mem} (hm : mle (m0) (wm W)) {g0 : Nat} (h0 : Ow (.ptr TwalWal) m0 [.pointer (some ⟨g0, 0, none⟩)] (g0, ((gd_, D_), br_, l_, es_))) : CallR Try.prog 52 [.pointer (some ⟨g0, 0, none⟩)] W (m0) (fun v m' => v = .int .i64 (wWrong D_ br_) ∧ Ow (.ptr TwalWal) m' [.pointer (some ⟨g0, 0, none⟩)] (g0, ((gd_, D_), decide (¬ wWrong D_ br_ = 0), l_, es_))) := by
  refine CallR.ofB (n := 20) hm Try.func52 rfl rfl rfl ?_
  refine VC.rs ?_
  refine VO.as ?_
  refine VO.k2 0 2 ?_
  refine VC.seq ?_
  refine VC.rs ?_
  refine VO.mv ?_
  refine VO.call 1 rfl fnOk64 rfl rfl (fun W hW => wNone_ok W (hW.at (i := 1) rfl) h0) (fun v1 m1 hv1 => ?_)
  try dsimp only at hv1
  obtain ⟨rfl, w1_0⟩ := hv1
  refine VO.k3 0 2 4 ?_
  refine VC.cond rfl (fun hc2 => ?_) (fun hc2 => ?_)
  · -- T
    exact hc2.elim
  · -- F
    refine VC.skip ?_
    refine outN ?_
    refine VC.seq ?_
    refine VC.rs ?_
    refine VO.mv ?_
    refine VO.y rfl (.nilp rfl) ?_
    refine VO.y rfl (.fa rfl tst58 rfl) ?_
    obtain ⟨q3_E, q3_A2, q3_c2, q3_A3, q3_c3, q3_n0, q3_n2, q3_n3, _, q3_S, q3_0, q3_2, q3_3⟩ := openP_walWal (x0 := (gd_, D_)) (x1 := br_) (x2 := l_) (x3 := es_) w1_0
    dsimp only at q3_0
    have q3_r2 := q3_2.rm
    have q3_r3 := q3_3.rm
    refine VO.inv _ (fun _ h => h.parts (i := 1) rfl q3_S [107, 104, 105, 106]) ?_
    refine VO.y rfl (.ld1 107 rfl tk4 rfl (cellsAt_one rfl rfl)) ?_
    refine VO.mv ?_
    refine VO.decB (t := 9) rfl (fun hc8 => ?_) (fun hc8 => ?_)
    · -- FT
      refine VO.gN ?_
      refine VO.gN ?_
      refine VO.gN ?_
      refine VO.gN ?_
      refine VO.gN ?_
      refine VO.gN ?_
      refine VO.y rfl (.pT rfl rfl) ?_
      refine VO.clsP 109 [107, 104, 105, 106] rfl (fun hg9 => (mkP_walWal (gd_, D_) br_ l_ es_ hg9 q3_0 q3_2 (OwnL.ow (Ow.ownl q3_3 rfl mnil) rfl))) (fun mc9 ho9 => ?_)
      refine VO.kp [109, 0] [(109, mc9), (0, mout (wm W) (m0))] ?_
      refine VO.k4 0 2 4 16 ?_
      refine VC.condT rfl ?_
      refine VC.rs ?_
      refine VO.mv ?_
      refine VO.y rfl (.nilp rfl) ?_
      refine VO.y rfl (.fa rfl tst58 rfl) ?_
      obtain ⟨q10_E, q10_A2, q10_c2, q10_A3, q10_c3, q10_n0, q10_n2, q10_n3, _, q10_S, q10_0, q10_2, q10_3⟩ := openP_walWal (x0 := (gd_, D_)) (x1 := br_) (x2 := l_) (x3 := es_) ho9
      dsimp only at q10_0
      have q10_r2 := q10_2.rm
      have q10_r3 := q10_3.rm
      refine VO.inv _ (fun _ h => h.parts (i := 109) rfl q10_S [114, 111, 112, 113]) ?_
      refine VO.store (k := 1) (c' := [Value.pointer (some ⟨gd_, 0, none⟩), Value.bool true, Value.slice q10_A2 (l_.length) (q10_c2), Value.slice q10_A3 (es_.length) (q10_c3)]) 114 rfl rfl (.inr ⟨tk4, rfl⟩) rfl rfl rfl rfl rfl ?_
      refine VO.clsP 115 [114, 111, 112, 113] rfl (fun hg15 => (mkP_walWal (gd_, D_) true l_ es_ hg15 q10_0 q10_2 (OwnL.ow (Ow.ownl q10_3 rfl mnil) rfl))) (fun mc15 ho15 => ?_)
      refine VO.k4 0 2 4 16 ?_
      refine VC.rs ?_
      refine VO.as ?_
      refine VO.k4 0 2 4 16 ?_
      refine VC.ret ?_
      refine outR ?_
      refine ⟨_, _, res_run (rs := [.tmp 2]) rfl (.tmp rfl .nil), fun W_ hI => out_of (l := [mc15]) hI [115] rfl rfl (mle_refl _) (fun hS_ => ?_)⟩
      dsimp only [packV]
      have hm0_ : (((gd_, D_), decide (¬ wWrong D_ br_ = 0), l_, es_) : DwalWal) = ((gd_, D_), true, l_, es_) := by first | rfl | (simp [wWrong, onD, *]; done)
      refine ⟨?_, ?_⟩
      rotate_left
      · rw [hm0_]; exact (Ow.up ho15 (hS_.1 _ (.head _)))
      all_goals (first | rfl | (simp [wWrong, onD, *]; done))
    · -- FF
      refine VO.gy rfl ⟨_, rfl, rfl⟩ (.mv rfl) ?_
      refine VO.gy rfl ⟨_, rfl, rfl⟩ (.nilp rfl) ?_
      refine VO.gy rfl ⟨_, rfl, rfl⟩ (.fa rfl tst58 rfl) ?_
      refine VO.gy rfl ⟨_, rfl, rfl⟩ (.ld1 107 rfl tk37 rfl (cellsAt_one rfl rfl)) ?_
      refine VO.gcall 104 rfl ⟨_, rfl, rfl⟩ fnOk26 rfl rfl (fun W hW => dOn_ok W (hW.at (i := 104) rfl) q3_0) (fun v16 m16 hv16 => ?_)
      obtain ⟨rfl, w16_0⟩ := hv16
      refine VO.gy rfl ⟨_, rfl, rfl⟩ (.notD rfl) ?_
      refine VO.y rfl (.pF rfl rfl) ?_
      refine VO.clsP 117 [107, 104, 105, 106] rfl (fun hg17 => (mkP_walWal (gd_, D_) br_ l_ es_ hg17 w16_0 q3_2 (OwnL.ow (Ow.ownl q3_3 rfl mnil) rfl))) (fun mc17 ho17 => ?_)
      refine VO.kp [117, 0] [(117, mc17), (0, mout (wm W) (m0))] ?_
      refine VO.k4 0 2 4 16 ?_
      refine VC.cond rfl (fun hc18 => ?_) (fun hc18 => ?_)
      · -- FFT
        refine VC.rs ?_
        refine VO.mv ?_
        refine VO.y rfl (.nilp rfl) ?_
        refine VO.y rfl (.fa rfl tst58 rfl) ?_
        obtain ⟨q19_E, q19_A2, q19_c2, q19_A3, q19_c3, q19_n0, q19_n2, q19_n3, _, q19_S, q19_0, q19_2, q19_3⟩ := openP_walWal (x0 := (gd_, D_)) (x1 := br_) (x2 := l_) (x3 := es_) ho17
        dsimp only at q19_0
        have q19_r2 := q19_2.rm
        have q19_r3 := q19_3.rm
        refine VO.inv _ (fun _ h => h.parts (i := 117) rfl q19_S [123, 120, 121, 122]) ?_
        refine VO.store (k := 1) (c' := [Value.pointer (some ⟨gd_, 0, none⟩), Value.bool true, Value.slice q19_A2 (l_.length) (q19_c2), Value.slice q19_A3 (es_.length) (q19_c3)]) 123 rfl rfl (.inr ⟨tk4, rfl⟩) rfl rfl rfl rfl rfl ?_
        refine VO.clsP 124 [123, 120, 121, 122] rfl (fun hg24 => (mkP_walWal (gd_, D_) true l_ es_ hg24 q19_0 q19_2 (OwnL.ow (Ow.ownl q19_3 rfl mnil) rfl))) (fun mc24 ho24 => ?_)
        refine VO.k4 0 2 4 16 ?_
        refine VC.rs ?_
        refine VO.as ?_
        refine VO.k4 0 2 4 16 ?_
        refine VC.ret ?_
        refine outR ?_
        refine ⟨_, _, res_run (rs := [.tmp 2]) rfl (.tmp rfl .nil), fun W_ hI => out_of (l := [mc24]) hI [124] rfl rfl (mle_refl _) (fun hS_ => ?_)⟩
        dsimp only [packV]
        have hm0_ : (((gd_, D_), decide (¬ wWrong D_ br_ = 0), l_, es_) : DwalWal) = ((gd_, D_), true, l_, es_) := by first | rfl | (simp [wWrong, onD, *]; done)
        refine ⟨?_, ?_⟩
        rotate_left
        · rw [hm0_]; exact (Ow.up ho24 (hS_.1 _ (.head _)))
        all_goals (first | rfl | (simp [wWrong, onD, *]; done))
      · -- FFF
        refine VC.skip ?_
        refine outN ?_
        refine VC.rs ?_
        refine VO.as ?_
        refine VO.k4 0 2 4 16 ?_
        refine VC.ret ?_
        refine ⟨_, _, res_run (rs := [.tmp 2]) rfl (.tmp rfl .nil), fun W_ hI => out_of (l := [mc17]) hI [117] rfl rfl (mle_refl _) (fun hS_ => ?_)⟩
        dsimp only [packV]
        have hm0_ : (((gd_, D_), decide (¬ wWrong D_ br_ = 0), l_, es_) : DwalWal) = ((gd_, D_), br_, l_, es_) := by first | rfl | (simp [wWrong, onD, *]; done)
        refine ⟨?_, ?_⟩
        rotate_left
        · rw [hm0_]; exact (Ow.up ho17 (hS_.1 _ (.head _)))
        all_goals (first | rfl | (simp [wWrong, onD, *]; done))
theorem fin0_wFrom_ok {P : Prop} (h : P := by first | omega | (simp only [List.length_append, List.length_nil, List.length_cons, List.length_take, List.length_drop] at *; omega) | (have h_ := okL_ops e0 ‹_[k]? = some _›; omega)) : P := h
theorem wFrom_ok (W : World) {es_ : List Int} {l_ : List DCommit} {br_ : Bool} {D_ : DdiskDisk} {gd_ : Nat} {m0 : Mem} (hm : mle (m0) (wm W)) {g0 : Nat} (h0 : Ow (.ptr TwalWal) m0 [.pointer (some ⟨g0, 0, none⟩)] (g0, ((gd_, D_), br_, l_, es_))) (d1 : Int) (h1 : inK .i64 d1) (d2 : Int) (h2 : inK .i64 d2) (e0 : okL l_) : CallR Try.prog 29 [.pointer (some ⟨g0, 0, none⟩), .int .i64 d1, .int .i64 d2] W (m0) (fun v m' => ∃ (s0 : Value), ∃ (p0 : Mem), ∃ (p1 : Mem), v = s0 ∧ Seps m' [p0, p1] ∧ Ow (.sl TCommit) p0 [s0] (wFrom l_ d1 d2) ∧ Ow (.ptr TwalWal) p1 [.pointer (some ⟨g0, 0, none⟩)] (g0, ((gd_, D_), br_, l_, es_))) := by
  have hll := okL_len e0; have hld : (l_.drop (d1 - 1).toNat).length = l_.length - (d1 - 1).toNat := List.length_drop
  have h1' := h1; simp only [inK] at h1'
  have h2' := h2; simp only [inK] at h2'
  refine CallR.ofB (n := 46) hm Try.func29 rfl rfl rfl ?_
  refine VC.rs ?_
  refine VO.as ?_
  refine VO.k4 0 1 2 6 ?_
  refine VC.seq ?_
  refine VC.rs ?_
  refine VO.mv ?_
  refine VO.y rfl (.lss rfl rfl) ?_
  refine VO.mv ?_
  refine VO.dec (t := 12) rfl (fun hc1 => ?_) (fun hc1 => ?_)
  · -- T
    refine VO.gN ?_
    refine VO.gN ?_
    refine VO.gN ?_
    refine VO.gN ?_
    refine VO.y rfl (.pT rfl rfl) ?_
    refine VO.mv ?_
    refine VO.gN ?_
    refine VO.gN ?_
    refine VO.y rfl (.pT rfl rfl) ?_
    refine VO.k5 0 1 2 6 21 ?_
    refine VC.condT rfl ?_
    refine VC.rs ?_
    refine VO.as ?_
    refine VO.kp [0, 1] [(0, mout (wm W) (m0)), (1, m0)] ?_
    refine VO.k5 0 1 2 6 21 ?_
    refine VC.ret ?_
    refine outR ?_
    refine ⟨_, _, res_run (rs := [.tmp 6]) rfl (.tmp rfl .nil), fun W_ hI => out_of (l := [m0]) hI [1] rfl rfl (mle_refl _) (fun hS_ => ?_)⟩
    dsimp only [packV]
    have he0 : (wFrom l_ d1 d2 : Ty.Den (.sl TCommit)) = [] := by first | rfl | (first | exact from_none (by omega) | exact from_mid (by omega) ho (by omega) | exact from_end (by omega) ho (by omega) (by omega))
    have hm0_ : (((gd_, D_), br_, l_, es_) : DwalWal) = ((gd_, D_), br_, l_, es_) := by first | rfl | (first | exact from_none (by omega) | exact from_mid (by omega) ho (by omega) | exact from_end (by omega) ho (by omega) (by omega))
    refine ⟨Value.slice none (0) (0), muns [], muns [m0], ?_, ?_, ?_, ?_⟩
    rotate_left
    · exact Seps.grp (ls := [[], [m0]]) hS_
    · rw [he0]; exact (Ow.nil _ _)
    · rw [hm0_]; exact (Ow.up h0 ((Seps.self hS_ (List.Sublist.cons_cons _ List.Sublist.slnil)).1 _ (.head _)))
    all_goals (first | rfl | (simp [*]; done))
  · -- F
    refine VO.gy rfl ⟨_, rfl, rfl⟩ (.mv rfl) ?_
    refine VO.gy rfl ⟨_, rfl, rfl⟩ (.mv rfl) ?_
    refine VO.gcall 1 rfl ⟨_, rfl, rfl⟩ fnOk31 rfl rfl (fun W hW => wEnd_ok W (hW.at (i := 1) rfl) h0) (fun v2 m2 hv2 => ?_)
    try dsimp only at hv2
    obtain ⟨rfl, w2_0⟩ := hv2
    refine VO.gy rfl ⟨_, rfl, rfl⟩ (.gtr rfl rfl) ?_
    refine VO.y rfl (.pF rfl rfl) ?_
    refine VO.mv ?_
    refine VO.dec (t := 18) rfl (fun hc3 => ?_) (fun hc3 => ?_)
    · -- FT
      refine VO.gN ?_
      refine VO.gN ?_
      refine VO.y rfl (.pT rfl rfl) ?_
      refine VO.k5 0 1 2 6 21 ?_
      refine VC.condT rfl ?_
      refine VC.rs ?_
      refine VO.as ?_
      refine VO.kp [1, 0] [(1, m2), (0, mout (wm W) (m0))] ?_
      refine VO.k5 0 1 2 6 21 ?_
      refine VC.ret ?_
      refine outR ?_
      refine ⟨_, _, res_run (rs := [.tmp 6]) rfl (.tmp rfl .nil), fun W_ hI => out_of (l := [m2]) hI [1] rfl rfl (mle_refl _) (fun hS_ => ?_)⟩
      dsimp only [packV]
      have he0 : (wFrom l_ d1 d2 : Ty.Den (.sl TCommit)) = [] := by first | rfl | (first | exact from_none (by omega) | exact from_mid (by omega) ho (by omega) | exact from_end (by omega) ho (by omega) (by omega))
      have hm0_ : (((gd_, D_), br_, l_, es_) : DwalWal) = ((gd_, D_), br_, l_, es_) := by first | rfl | (first | exact from_none (by omega) | exact from_mid (by omega) ho (by omega) | exact from_end (by omega) ho (by omega) (by omega))
      refine ⟨Value.slice none (0) (0), muns [], muns [m2], ?_, ?_, ?_, ?_⟩
      rotate_left
      · exact Seps.grp (ls := [[], [m2]]) hS_
      · rw [he0]; exact (Ow.nil _ _)
      · rw [hm0_]; exact (Ow.up w2_0 ((Seps.self hS_ (List.Sublist.cons_cons _ List.Sublist.slnil)).1 _ (.head _)))
      all_goals (first | rfl | (simp [*]; done))
    · -- FF
      refine VO.gy rfl ⟨_, rfl, rfl⟩ (.mv rfl) ?_
      refine VO.gy rfl ⟨_, rfl, rfl⟩ (.lss rfl rfl) ?_
      refine VO.y rfl (.pF rfl rfl) ?_
      refine VO.k5 0 1 2 6 21 ?_
      refine VC.cond rfl (fun hc4 => ?_) (fun hc4 => ?_)
      · -- FFT
        refine VC.rs ?_
        refine VO.as ?_
        refine VO.kp [1, 0] [(1, m2), (0, mout (wm W) (m0))] ?_
        refine VO.k5 0 1 2 6 21 ?_
        refine VC.ret ?_
        refine outR ?_
        refine ⟨_, _, res_run (rs := [.tmp 6]) rfl (.tmp rfl .nil), fun W_ hI => out_of (l := [m2]) hI [1] rfl rfl (mle_refl _) (fun hS_ => ?_)⟩
        dsimp only [packV]
        have he0 : (wFrom l_ d1 d2 : Ty.Den (.sl TCommit)) = [] := by first | rfl | (first | exact from_none (by omega) | exact from_mid (by omega) ho (by omega) | exact from_end (by omega) ho (by omega) (by omega))
        have hm0_ : (((gd_, D_), br_, l_, es_) : DwalWal) = ((gd_, D_), br_, l_, es_) := by first | rfl | (first | exact from_none (by omega) | exact from_mid (by omega) ho (by omega) | exact from_end (by omega) ho (by omega) (by omega))
        refine ⟨Value.slice none (0) (0), muns [], muns [m2], ?_, ?_, ?_, ?_⟩
        rotate_left
        · exact Seps.grp (ls := [[], [m2]]) hS_
        · rw [he0]; exact (Ow.nil _ _)
        · rw [hm0_]; exact (Ow.up w2_0 ((Seps.self hS_ (List.Sublist.cons_cons _ List.Sublist.slnil)).1 _ (.head _)))
        all_goals (first | rfl | (simp [*]; done))
      · -- FFF
        refine VC.skip ?_
        refine outN ?_
        refine VC.rs ?_
        refine VO.as ?_
        refine VO.kp [1, 0] [(1, m2), (0, mout (wm W) (m0))] ?_
        refine VO.k6 0 1 2 6 7 21 ?_
        refine VC.seq ?_
        refine VC.rs ?_
        refine VO.mv ?_
        refine VO.y rfl (.nilp rfl) ?_
        refine VO.y rfl (.fa rfl tst58 rfl) ?_
        obtain ⟨q5_E, q5_A2, q5_c2, q5_A3, q5_c3, q5_n0, q5_n2, q5_n3, _, q5_S, q5_0, q5_2, q5_3⟩ := openP_walWal (x0 := (gd_, D_)) (x1 := br_) (x2 := l_) (x3 := es_) w2_0
        dsimp only at q5_0
        have q5_r2 := q5_2.rm
        have q5_r3 := q5_3.rm
        refine VO.inv _ (fun _ h => h.parts (i := 1) rfl q5_S [109, 106, 107, 108]) ?_
        refine VO.y rfl (.ld1 109 rfl tk25 rfl (cellsAt_one rfl rfl)) ?_
        refine VO.mv ?_
        refine VO.y rfl (.sub rfl rfl rfl ⟨by exact fin0_wFrom_ok, by exact fin0_wFrom_ok⟩) ?_
        obtain ⟨A10, hA10, ho10⟩ := q5_2.drop' 3 ((d1 - 1).toNat) rfl (by exact fin0_wFrom_ok)
        refine VO.y rfl (.slLI ((d1 - 1).toNat) A10 rfl rfl tsl25 (by exact fin0_wFrom_ok) hA10 (by exact fin0_wFrom_ok)) ?_
        refine VO.y rfl (.lenS rfl tsl25) ?_
        refine VO.mv ?_
        refine VO.k9 0 1 2 6 7 21 28 29 30 ?_
        refine VC.block ?_
        refine VC.inv ((111, mnil) :: _) (fun _ h => h.nilc 111) ?_
        refine VC.loop (G := Nat × (List DCommit) × (Option Addr) × Nat × Mem) (fun g => [(7, Value.slice (g.2.2.1) ((g.2.1).length) ((g.2.2.2.1))), (30, Value.int .i64 ((((g.1) : Nat) : Int))), (0, Value.pointer (some ⟨g0, 0, none⟩)), (1, Value.int .i64 (d1)), (2, Value.int .i64 (d2)), (21, Value.bool (decide (d2 < 1))), (28, Value.slice A10 (l_.length - ((d1 - 1).toNat)) (q5_c2 - ((d1 - 1).toNat))), (29, Value.int .i64 (((l_.length - ((d1 - 1).toNat) : Nat) : Int)))]) (fun g => [(111, (g.2.2.2.2)), (109, mone g0 (.cells [Value.pointer (some ⟨gd_, 0, none⟩), Value.bool br_, Value.slice q5_A2 (l_.length) (q5_c2), Value.slice q5_A3 (es_.length) (q5_c3)].toArray q5_E (0, 0))), (106, q5_n0), (107, q5_n2), (108, q5_n3), (0, mout (wm W) (m0))]) (fun g => (((g.1) : Int) ≤ d2 ∧ (g.1) ≤ (l_.drop (d1 - 1).toNat).length) ∧ ((g.2.1) = (l_.drop (d1 - 1).toNat).take (g.1)) ∧ (Ow (.sl TCommit) (g.2.2.2.2) [.slice (g.2.2.1) (g.2.1).length (g.2.2.2.1)] (g.2.1))) (fun g => (l_.drop (d1 - 1).toNat).length - (g.1)) (0, [], none, 0, mnil) (⟨by (dsimp only; omega), by rfl, (Ow.nil TCommit mnil)⟩) ⟨⟨rfl, rfl, rfl, rfl, rfl, rfl, rfl, rfl, trivial⟩, fun _ h => h.sub [111, 109, 106, 107, 108, 0]⟩ ?_
        rintro ⟨k, out, out_A, out_c, out_m⟩ ⟨hk, ho, h_out⟩
        replace hk : (k : Int) ≤ d2 ∧ k ≤ (l_.drop (d1 - 1).toNat).length := hk
        replace ho : out = (l_.drop (d1 - 1).toNat).take k := ho
        replace h_out : Ow (.sl TCommit) out_m [.slice out_A out.length out_c] out := h_out
        show VC _ _ _ _ _ [(7, Value.slice out_A (out.length) (out_c)), (30, Value.int .i64 (((k : Nat) : Int))), (0, Value.pointer (some ⟨g0, 0, none⟩)), (1, Value.int .i64 (d1)), (2, Value.int .i64 (d2)), (21, Value.bool (decide (d2 < 1))), (28, Value.slice A10 (l_.length - ((d1 - 1).toNat)) (q5_c2 - ((d1 - 1).toNat))), (29, Value.int .i64 (((l_.length - ((d1 - 1).toNat) : Nat) : Int)))] [(111, out_m), (109, mone g0 (.cells [Value.pointer (some ⟨gd_, 0, none⟩), Value.bool br_, Value.slice q5_A2 (l_.length) (q5_c2), Value.slice q5_A3 (es_.length) (q5_c3)].toArray q5_E (0, 0))), (106, q5_n0), (107, q5_n2), (108, q5_n3), (0, mout (wm W) (m0))]
        have l_out : out.length ≤ out_c := by obtain ⟨_, _, he, hl, _⟩ := h_out.slice; simp only [Value.slice.injEq] at he; omega
        have k_out : out_c ≤ 9223372036854775807 := by obtain ⟨_, _, he, _, hl⟩ := h_out.slice; simp only [Value.slice.injEq, maxLen] at he hl; omega
        have hlo : out.length = k := by rw [ho, List.length_take]; omega
        refine VC.rs ?_
        refine VO.y rfl (.lss rfl rfl) ?_
        refine VO.k9 0 1 2 7 21 28 29 30 31 ?_
        refine VC.seq ?_
        refine VC.cond rfl (fun hc12 => ?_) (fun hc12 => ?_)
        · -- FFFT
          refine VC.skip ?_
          refine outN ?_
          refine VC.seq ?_
          refine VC.block ?_
          refine VC.rs ?_
          obtain ⟨x13, hx13⟩ : ∃ z_, (l_.drop ((d1 - 1).toNat))[k]? = some z_ := ⟨_, List.getElem?_eq_getElem (by exact fin0_wFrom_ok)⟩
          obtain ⟨gg13, oo13, ec13, ea13, hce13, hre13⟩ := (Ow.rd ho10 (mle_refl _)).elem hx13
          cases ea13
          obtain ⟨q13_A2, q13_c2, rfl, q13_0, q13_1, q13_2⟩ := open_Commit (x0 := x13.1) (x1 := x13.2.1) (x2 := x13.2.2) hre13
          simp only [inK] at q13_0
          simp only [inK] at q13_1
          have q13_r2 := Rd.room q13_2
          refine VO.y rfl (.ixI k rfl rfl tsl25 rfl (by exact fin0_wFrom_ok)) ?_
          refine VO.y rfl (.ldA 107 rfl tk42 rfl hce13) ?_
          refine VO.alloc 115 rfl tz42 (fun g14 => ?_)
          refine VO.store (k := 3) (c' := [Value.int .i64 (x13.1), Value.int .i64 (x13.2.1), Value.slice q13_A2 (x13.2.2.length) (q13_c2)]) 115 rfl rfl (.inl tk42) rfl rfl rfl rfl rfl ?_
          refine VO.kp [115, 111, 109, 106, 107, 108, 0] [(115, mone g14 (.cells [Value.int .i64 (x13.1), Value.int .i64 (x13.2.1), Value.slice q13_A2 (x13.2.2.length) (q13_c2)].toArray 42 (0, 0))), (111, out_m), (109, mone g0 (.cells [Value.pointer (some ⟨gd_, 0, none⟩), Value.bool br_, Value.slice q5_A2 (l_.length) (q5_c2), Value.slice q5_A3 (es_.length) (q5_c3)].toArray q5_E (0, 0))), (106, q5_n0), (107, q5_n2), (108, q5_n3), (0, mout (wm W) (m0))] ?_
          refine VO.k10 0 1 2 7 9 21 28 29 30 31 ?_
          refine VC.seq ?_
          refine VC.rs ?_
          refine VO.mv ?_
          refine VO.y rfl (.lenS rfl tsl25) ?_
          refine VO.mv ?_
          refine VO.y rfl (.eql rfl rfl) ?_
          refine VO.k11 0 1 2 7 9 21 28 29 30 31 37 ?_
          refine VC.cond rfl (fun hc16 => ?_) (fun hc16 => ?_)
          · -- FFFTT
            refine VC.rs ?_
            refine VO.mv ?_
            refine VO.as ?_
            refine VO.k12 0 1 2 6 7 9 21 28 29 30 31 37 ?_
            refine VC.ret ?_
            refine outR ?_
            refine outBR ?_
            refine outR ?_
            refine outR ?_
            refine outBR ?_
            refine outR ?_
            refine ⟨_, _, res_run (rs := [.tmp 6]) rfl (.tmp rfl .nil), fun W_ hI => out_of (l := [out_m, mone g0 (.cells [Value.pointer (some ⟨gd_, 0, none⟩), Value.bool br_, Value.slice q5_A2 (l_.length) (q5_c2), Value.slice q5_A3 (es_.length) (q5_c3)].toArray q5_E (0, 0)), q5_n0, q5_n2, q5_n3]) hI [111, 109, 106, 107, 108] rfl rfl (mle_refl _) (fun hS_ => ?_)⟩
            dsimp only [packV]
            have he0 : (wFrom l_ d1 d2 : Ty.Den (.sl TCommit)) = out := by first | rfl | (first | exact from_none (by omega) | exact from_mid (by omega) ho (by omega) | exact from_end (by omega) ho (by omega) (by omega))
            have hm0_ : (((gd_, D_), br_, l_, es_) : DwalWal) = ((gd_, D_), br_, l_, es_) := by first | rfl | (first | exact from_none (by omega) | exact from_mid (by omega) ho (by omega) | exact from_end (by omega) ho (by omega) (by omega))
            refine ⟨Value.slice out_A (out.length) (out_c), muns [out_m], muns [mone g0 (.cells [Value.pointer (some ⟨gd_, 0, none⟩), Value.bool br_, Value.slice q5_A2 (l_.length) (q5_c2), Value.slice q5_A3 (es_.length) (q5_c3)].toArray q5_E (0, 0)), q5_n0, q5_n2, q5_n3], ?_, ?_, ?_, ?_⟩
            rotate_left
            · exact Seps.grp (ls := [[out_m], [mone g0 (.cells [Value.pointer (some ⟨gd_, 0, none⟩), Value.bool br_, Value.slice q5_A2 (l_.length) (q5_c2), Value.slice q5_A3 (es_.length) (q5_c3)].toArray q5_E (0, 0)), q5_n0, q5_n2, q5_n3]]) hS_
            · rw [he0]; exact (Ow.up h_out ((Seps.self hS_ (List.Sublist.cons_cons _ (List.Sublist.cons _ (List.Sublist.cons _ (List.Sublist.cons _ (List.Sublist.cons _ List.Sublist.slnil)))))).1 _ (.head _)))
            · rw [hm0_]; exact (mkP_walWal (gd_, D_) br_ l_ es_ (Seps.self hS_ (List.Sublist.cons _ (List.Sublist.cons_cons _ (List.Sublist.cons_cons _ (List.Sublist.cons_cons _ (List.Sublist.cons_cons _ List.Sublist.slnil)))))) q5_0 q5_2 (OwnL.ow (Ow.ownl q5_3 rfl mnil) rfl))
            all_goals (first | rfl | (simp [*]; done))
          · -- FFFTF
            refine VC.skip ?_
            refine outN ?_
            refine VC.reg ?_
            refine VO.mv ?_
            refine VO.y rfl (.ldA 115 rfl tk42 rfl (cellsAt_one rfl rfl)) ?_
            refine VO.callN 117 rfl fnOk58 rfl (fun W hW => cCopy_ok W (Rd.mono hre13 (hW.at (i := 107) rfl)) (by exact fin0_wFrom_ok)) (fun v17 m17 hv17 => ?_)
            obtain ⟨s17_0, rfl, f17_0⟩ := hv17
            obtain ⟨q17_0_A2, q17_0_c2, q17_0_n2, rfl, q17_0_S, q17_0_0, q17_0_1, q17_0_2⟩ := openO_Commit (x0 := x13.1) (x1 := x13.2.1) (x2 := x13.2.2) f17_0
            simp only [inK] at q17_0_0
            simp only [inK] at q17_0_1
            have q17_0_r2 := q17_0_2.rm
            refine VO.inv _ (fun _ h => h.parts (i := 117) rfl q17_0_S [118]) ?_
            refine VO.bsl (cs := [Value.int .i64 (x13.1), Value.int .i64 (x13.2.1), Value.slice q17_0_A2 (x13.2.2.length) (q17_0_c2)]) 120 rfl rfl tsl25 tz42 rfl rfl (fun g19 => ?_)
            refine VO.appO (e := TCommit) 111 118 120 rfl rfl rfl tsl25 tz42 rfl rfl rfl rfl h_out (show Ow TCommit _ _ x13 from (mkO_Commit x13.1 x13.2.1 x13.2.2 (Seps.one (mle_refl _)) (by simp only [inK]; (exact fin0_wFrom_ok)) (by simp only [inK]; (exact fin0_wFrom_ok)) (OwnL.ow (Ow.ownl q17_0_2 rfl mnil) rfl))) Try.underlying25 (cellsAt_one rfl rfl) (by simp only [maxLen]; (exact fin0_wFrom_ok)) (by exact fin0_wFrom_ok) (by decide) (fun v21 m21 ho21 => ?_)
            obtain ⟨A21, c21, rfl, l21, k21⟩ := ho21.slice
            simp only [maxLen] at k21
            refine VO.as ?_
            refine VO.k11 0 1 2 7 9 21 28 29 30 31 37 ?_
            refine outBN ?_
            refine outN ?_
            refine VC.reg ?_
            refine VO.y rfl (.add (c := ((k + 1 : Nat) : Int)) rfl rfl (by omega) ⟨by exact fin0_wFrom_ok, by exact fin0_wFrom_ok⟩) ?_
            refine VO.mv ?_
            refine VO.kp [111, 115, 109, 106, 107, 108, 0] [(111, m21), (115, mone g14 (.cells [Value.int .i64 (x13.1), Value.int .i64 (x13.2.1), Value.slice q13_A2 (x13.2.2.length) (q13_c2)].toArray 42 (0, 0))), (109, mone g0 (.cells [Value.pointer (some ⟨gd_, 0, none⟩), Value.bool br_, Value.slice q5_A2 (l_.length) (q5_c2), Value.slice q5_A3 (es_.length) (q5_c3)].toArray q5_E (0, 0))), (106, q5_n0), (107, q5_n2), (108, q5_n3), (0, mout (wm W) (m0))] ?_
            refine VO.k11 0 1 2 7 9 21 28 29 30 31 37 ?_
            exact outN ⟨⟨k + 1, out ++ [x13], A21, c21, m21⟩, ⟨by (dsimp only; omega), by (rw [ho]; exact (take_one ‹(l_.drop (d1 - 1).toNat)[k]? = some _›).symm), ho21⟩, by exact fin0_wFrom_ok, ⟨⟨rfl, rfl, rfl, rfl, rfl, rfl, rfl, rfl, trivial⟩, fun _ h => Inv.sub h [111, 109, 106, 107, 108, 0]⟩⟩
        · -- FFFF
          refine VC.exit ?_
          refine outE ?_
          refine outE ?_
          refine outBB ?_
          refine outN ?_
          refine VC.rs ?_
          refine VO.mv ?_
          refine VO.as ?_
          refine VO.kp [111, 109, 106, 107, 108, 0] [(111, out_m), (109, mone g0 (.cells [Value.pointer (some ⟨gd_, 0, none⟩), Value.bool br_, Value.slice q5_A2 (l_.length) (q5_c2), Value.slice q5_A3 (es_.length) (q5_c3)].toArray q5_E (0, 0))), (106, q5_n0), (107, q5_n2), (108, q5_n3), (0, mout (wm W) (m0))] ?_
          refine VO.k10 0 1 2 6 7 21 28 29 30 31 ?_
          refine VC.ret ?_
          refine ⟨_, _, res_run (rs := [.tmp 6]) rfl (.tmp rfl .nil), fun W_ hI => out_of (l := [out_m, mone g0 (.cells [Value.pointer (some ⟨gd_, 0, none⟩), Value.bool br_, Value.slice q5_A2 (l_.length) (q5_c2), Value.slice q5_A3 (es_.length) (q5_c3)].toArray q5_E (0, 0)), q5_n0, q5_n2, q5_n3]) hI [111, 109, 106, 107, 108] rfl rfl (mle_refl _) (fun hS_ => ?_)⟩
          dsimp only [packV]
          have he0 : (wFrom l_ d1 d2 : Ty.Den (.sl TCommit)) = out := by first | rfl | (first | exact from_none (by omega) | exact from_mid (by omega) ho (by omega) | exact from_end (by omega) ho (by omega) (by omega))
          have hm0_ : (((gd_, D_), br_, l_, es_) : DwalWal) = ((gd_, D_), br_, l_, es_) := by first | rfl | (first | exact from_none (by omega) | exact from_mid (by omega) ho (by omega) | exact from_end (by omega) ho (by omega) (by omega))
          refine ⟨Value.slice out_A (out.length) (out_c), muns [out_m], muns [mone g0 (.cells [Value.pointer (some ⟨gd_, 0, none⟩), Value.bool br_, Value.slice q5_A2 (l_.length) (q5_c2), Value.slice q5_A3 (es_.length) (q5_c3)].toArray q5_E (0, 0)), q5_n0, q5_n2, q5_n3], ?_, ?_, ?_, ?_⟩
          rotate_left
          · exact Seps.grp (ls := [[out_m], [mone g0 (.cells [Value.pointer (some ⟨gd_, 0, none⟩), Value.bool br_, Value.slice q5_A2 (l_.length) (q5_c2), Value.slice q5_A3 (es_.length) (q5_c3)].toArray q5_E (0, 0)), q5_n0, q5_n2, q5_n3]]) hS_
          · rw [he0]; exact (Ow.up h_out ((Seps.self hS_ (List.Sublist.cons_cons _ (List.Sublist.cons _ (List.Sublist.cons _ (List.Sublist.cons _ (List.Sublist.cons _ List.Sublist.slnil)))))).1 _ (.head _)))
          · rw [hm0_]; exact (mkP_walWal (gd_, D_) br_ l_ es_ (Seps.self hS_ (List.Sublist.cons _ (List.Sublist.cons_cons _ (List.Sublist.cons_cons _ (List.Sublist.cons_cons _ (List.Sublist.cons_cons _ List.Sublist.slnil)))))) q5_0 q5_2 (OwnL.ow (Ow.ownl q5_3 rfl mnil) rfl))
          all_goals (first | rfl | (simp [*]; done))
theorem fin0_wApp_ok {P : Prop} (h : P := by first | (rw [app_bad1 (by assumption)] <;> first | rfl | (simp [*]; done) | (have h6_ := wrong_six (by assumption); simp [h6_, *]; done) | (simp_all; done)) | (rw [app_e2 (by assumption) (by assumption)] <;> first | rfl | (simp [*]; done) | (have h6_ := wrong_six (by assumption); simp [h6_, *]; done) | (simp_all; done)) | (rw [app_e3 (by assumption) (by assumption) (by assumption)] <;> first | rfl | (simp [*]; done) | (have h6_ := wrong_six (by assumption); simp [h6_, *]; done) | (simp_all; done)) | (rw [app_ego (by assumption) (by assumption) (by assumption), tried_bad (by assumption)] <;> first | rfl | (simp [*]; done) | (have h6_ := wrong_six (by assumption); simp [h6_, *]; done) | (simp_all; done)) | (rw [app_ego (by assumption) (by assumption) (by assumption), tried_good (by first | assumption | (simp [*]; done))] <;> first | rfl | (simp [*]; done) | (have h6_ := wrong_six (by assumption); simp [h6_, *]; done) | (simp_all; done)) | (rw [app_ego (by assumption) (by assumption) (by assumption), tried_good (by first | assumption | (simp [*]; done))]; dsimp only; rw [app_ends e3 (by assumption)] <;> first | rfl | (simp [*]; done))) : P := h
theorem fin1_wApp_ok {P : Prop} (h : P := by first | omega | (simp only [List.length_append, List.length_nil, List.length_cons, List.length_take, List.length_drop] at *; omega) | (have h_ := app_frl ‹¬ ¬ (cEncode d1).2 = 0›; have h2_ := app_ops ‹¬ ¬ (cEncode d1).2 = 0›; omega) | (have h_ := write_rng D_ 0 (fAppend [] (cEncode d1).1).1; omega)) : P := h
set_option maxHeartbeats 4000000 in
theorem wApp_ok (W : World) {es_ : List Int} {l_ : List DCommit} {br_ : Bool} {D_ : DdiskDisk} {gd_ : Nat} {m0 : Mem} (hm : mle (m0) (wm W)) {g0 : Nat} (h0 : Ow (.ptr TwalWal) m0 [.pointer (some ⟨g0, 0, none⟩)] (g0, ((gd_, D_), br_, l_, es_))) {v1 : List Value} {d1 : DCommit} (h1 : Rd TCommit (mout (wm W) (m0)) v1 d1) (e0 : okD D_) (e1 : wD D_ + 3000 ≤ 1000000000000) (e2 : okL l_) (e3 : es_ = endsC l_) : CallR Try.prog 17 [.pointer (some ⟨g0, 0, none⟩), .agg v1.toArray] W (m0) (fun v m' => v = .int .i64 ((wApp D_ br_ l_ d1).2) ∧ Ow (.ptr TwalWal) m' [.pointer (some ⟨g0, 0, none⟩)] (g0, ((gd_, (wApp D_ br_ l_ d1).1.1), (wApp D_ br_ l_ d1).1.2.1, (wApp D_ br_ l_ d1).1.2.2, endsC (wApp D_ br_ l_ d1).1.2.2))) := by
  have hll := okL_len e2; have hlf := okL_frames e2; have hel := endsC_len l_; rw [← e3] at hel; have hlr := lastOr_range e2; have hlw := lenW_ends l_; rw [← e3] at hlw
  obtain ⟨p1_A2, p1_c2, rfl, p1_0, p1_1, p1_2⟩ := open_Commit (x0 := d1.1) (x1 := d1.2.1) (x2 := d1.2.2) h1
  simp only [inK] at p1_0
  simp only [inK] at p1_1
  have p1_r2 := Rd.room p1_2
  refine CallR.ofB (n := 79) hm Try.func17 rfl rfl rfl ?_
  refine VC.rs ?_
  refine VO.box (cs := [Value.int .i64 (d1.1), Value.int .i64 (d1.2.1), Value.slice p1_A2 (d1.2.2.length) (p1_c2)]) 102 rfl rfl rfl (fun g1 => ?_)
  refine VO.as ?_
  refine VO.k4 0 1 3 4 ?_
  refine VC.seq ?_
  refine VC.rs ?_
  refine VO.mv ?_
  refine VO.call 1 rfl fnOk52 rfl rfl (fun W hW => wWrong_ok W (hW.at (i := 1) rfl) h0) (fun v3 m3 hv3 => ?_)
  try dsimp only at hv3
  obtain ⟨rfl, w3_0⟩ := hv3
  refine VO.as ?_
  refine VO.k5 0 1 3 4 5 ?_
  refine VC.rs ?_
  refine VO.mv ?_
  refine VO.y rfl (.neq rfl rfl) ?_
  refine VO.kp [1, 102, 0] [(1, m3), (102, mone g1 (.cells [Value.int .i64 (d1.1), Value.int .i64 (d1.2.1), Value.slice p1_A2 (d1.2.2.length) (p1_c2)].toArray 42 (0, 0))), (0, mout (wm W) (m0))] ?_
  refine VO.k6 0 1 3 4 5 13 ?_
  refine VC.cond rfl (fun hc4 => ?_) (fun hc4 => ?_)
  · -- T
    refine VC.rs ?_
    refine VO.mv ?_
    refine VO.as ?_
    refine VO.k6 0 1 3 4 5 13 ?_
    refine VC.ret ?_
    refine outR ?_
    refine ⟨_, _, res_run (rs := [.tmp 4]) rfl (.tmp rfl .nil), fun W_ hI => out_of (l := [m3]) hI [1] rfl rfl (mle_refl _) (fun hS_ => ?_)⟩
    dsimp only [packV]
    have hm0_ : (((gd_, (wApp D_ br_ l_ d1).1.1), (wApp D_ br_ l_ d1).1.2.1, (wApp D_ br_ l_ d1).1.2.2, endsC (wApp D_ br_ l_ d1).1.2.2) : DwalWal) = ((gd_, D_), decide (¬ wWrong D_ br_ = 0), l_, es_) := by first | rfl | (exact fin0_wApp_ok)
    refine ⟨?_, ?_⟩
    rotate_left
    · rw [hm0_]; exact (Ow.up w3_0 (hS_.1 _ (.head _)))
    all_goals (first | rfl | (exact fin0_wApp_ok))
  · -- F
    refine VC.skip ?_
    refine outN ?_
    refine VC.rs ?_
    refine VO.y rfl (.ldA 102 rfl tk42 rfl (cellsAt_one rfl rfl)) ?_
    refine VO.callN 105 rfl fnOk53 rfl (fun W hW => cEncode_ok_ W (Rd.mono h1 (hW.at (i := 0) rfl))) (fun v5 m5 hv5 => ?_)
    obtain ⟨s5_0, rfl, f5_0⟩ := hv5
    have hfa6 := cEncode_len d1
    obtain ⟨A5_0, c5_0, eq5_0, l5_0, k5_0⟩ := f5_0.slice
    subst eq5_0
    simp only [maxLen] at k5_0
    refine VO.mv ?_
    refine VO.y rfl (.ext rfl rfl) ?_
    refine VO.y rfl (.ext rfl rfl) ?_
    refine VO.as ?_
    refine VO.as ?_
    refine VO.k8 0 1 3 4 5 6 7 13 ?_
    refine VC.seq ?_
    refine VC.rs ?_
    refine VO.mv ?_
    refine VO.y rfl (.neq rfl rfl) ?_
    refine VO.k9 0 1 3 4 5 6 7 13 21 ?_
    refine VC.cond rfl (fun hc7 => ?_) (fun hc7 => ?_)
    · -- FT
      refine VC.rs ?_
      refine VO.mv ?_
      refine VO.as ?_
      refine VO.kp [105, 1, 102, 0] [(105, m5), (1, m3), (102, mone g1 (.cells [Value.int .i64 (d1.1), Value.int .i64 (d1.2.1), Value.slice p1_A2 (d1.2.2.length) (p1_c2)].toArray 42 (0, 0))), (0, mout (wm W) (m0))] ?_
      refine VO.k9 0 1 3 4 5 6 7 13 21 ?_
      refine VC.ret ?_
      refine outR ?_
      refine ⟨_, _, res_run (rs := [.tmp 4]) rfl (.tmp rfl .nil), fun W_ hI => out_of (l := [m3]) hI [1] rfl rfl (mle_refl _) (fun hS_ => ?_)⟩
      dsimp only [packV]
      have hm0_ : (((gd_, (wApp D_ br_ l_ d1).1.1), (wApp D_ br_ l_ d1).1.2.1, (wApp D_ br_ l_ d1).1.2.2, endsC (wApp D_ br_ l_ d1).1.2.2) : DwalWal) = ((gd_, D_), decide (¬ wWrong D_ br_ = 0), l_, es_) := by first | rfl | (exact fin0_wApp_ok)
      refine ⟨?_, ?_⟩
      rotate_left
      · rw [hm0_]; exact (Ow.up w3_0 (hS_.1 _ (.head _)))
      all_goals (first | rfl | (exact fin0_wApp_ok))
    · -- FF
      refine VC.skip ?_
      refine outN ?_
      refine VC.seq ?_
      refine VC.seq ?_
      refine VC.regE [(105, m5), (102, mone g1 (.cells [Value.int .i64 (d1.1), Value.int .i64 (d1.2.1), Value.slice p1_A2 (d1.2.2.length) (p1_c2)].toArray 42 (0, 0))), (0, mout (wm W) (m0))] 6 follows (by kernel_rfl) (fun _ h => h.sub [105, 102, 0]) ?_
      refine VE.y 0 rfl rfl (.inl rfl) (by kernel_rfl) (.mv rfl) ?_
      refine VE.y 2 rfl rfl (.inl rfl) (by kernel_rfl) (.mv rfl) ?_
      refine VE.y 4 rfl rfl (.inl rfl) (by kernel_rfl) (.ldA 102 rfl tk42 rfl (cellsAt_one rfl rfl)) ?_
      refine VE.tree [1, 5] (by kernel_rfl) ⟨?_, ?_, trivial⟩
      · -- FF0
        refine VI.call 1 rfl rfl (.inl rfl) fnOk20 rfl rfl (fun _ _ h => Inv.sbK [105, 102, 0] h) (fun W hW => wEpoch_ok W (hW.at (i := 1) rfl) w3_0) (fun v8 m8 hv8 => ?_)
        try dsimp only at hv8
        obtain ⟨rfl, w8_0⟩ := hv8
        refine VE.tree [3, 5] (by kernel_rfl) ⟨?_, ?_, trivial⟩
        · -- FF00
          refine VI.call 1 rfl rfl (.inl rfl) fnOk31 rfl rfl (fun _ _ h => Inv.sbK [105, 102, 0] h) (fun W hW => wEnd_ok W (hW.at (i := 1) rfl) w8_0) (fun v9 m9 hv9 => ?_)
          try dsimp only at hv9
          obtain ⟨rfl, w9_0⟩ := hv9
          refine VE.tree [5] (by kernel_rfl) ⟨?_, trivial⟩
          refine VI.bsl (cs := [Value.int .i64 (d1.1), Value.int .i64 (d1.2.1), Value.slice p1_A2 (d1.2.2.length) (p1_c2)]) 111 rfl rfl rfl tsl25 tz42 rfl rfl (fun _ h => Inv.sbK [105, 102, 0] h) (fun g10 => ?_)
          refine VE.nil (by kernel_rfl) rfl ?_ rfl
          have ho13 : OwnL TCommit (mone g10 (.cells [Value.int .i64 (d1.1), Value.int .i64 (d1.2.1), Value.slice p1_A2 (d1.2.2.length) (p1_c2)].toArray 42 (0, 0))) (mout (wm W) (m0)) (Value.slice (some ⟨g10, 0, none⟩) (1) (1)) [d1] := OwnL.lit 1 (All2c.cons (c1 := [Value.int .i64 (d1.1), Value.int .i64 (d1.2.1), Value.slice p1_A2 (d1.2.2.length) (p1_c2)]) (Rd.mono h1 (mle_refl _)) All2c.nil) rfl rfl
          refine VO.callN 112 rfl fnOk54 rfl (fun W hW => follows_ok W (lastOr 0 l_) (by simp only [inK]; (exact fin1_wApp_ok)) ((l_.length : Nat) : Int) (by simp only [inK]; (exact fin1_wApp_ok)) (OwnL.rd ho13 (hW.at (i := 111) rfl) (hW.at (i := 0) rfl))) (fun v12 m12 hv12 => ?_)
          obtain ⟨s12_0, rfl, f12_0⟩ := hv12
          obtain ⟨rfl, q12_0_0, q12_0_1⟩ := open_Fault (x0 := (cFollows (lastOr 0 l_) ((l_.length : Nat) : Int) ([d1])).1) (x1 := (cFollows (lastOr 0 l_) ((l_.length : Nat) : Int) ([d1])).2) (f12_0.rd (mle_refl _))
          simp only [inK] at q12_0_0
          simp only [inK] at q12_0_1
          refine VO.y rfl (.fld1 rfl tst69 rfl tfk69_0 rfl) ?_
          refine VO.y rfl (.neq rfl rfl) ?_
          refine VO.kp [1, 105, 102, 0] [(1, m9), (105, m5), (102, mone g1 (.cells [Value.int .i64 (d1.1), Value.int .i64 (d1.2.1), Value.slice p1_A2 (d1.2.2.length) (p1_c2)].toArray 42 (0, 0))), (0, mout (wm W) (m0))] ?_
          refine VO.k10 0 1 3 4 5 6 7 13 21 31 ?_
          refine outN ?_
          refine VC.cond rfl (fun hc14 => ?_) (fun hc14 => ?_)
          · -- FF00T
            refine VC.rs ?_
            refine VO.as ?_
            refine VO.k10 0 1 3 4 5 6 7 13 21 31 ?_
            refine VC.ret ?_
            refine outR ?_
            refine ⟨_, _, res_run (rs := [.tmp 4]) rfl (.tmp rfl .nil), fun W_ hI => out_of (l := [m9]) hI [1] rfl rfl (mle_refl _) (fun hS_ => ?_)⟩
            dsimp only [packV]
            have hm0_ : (((gd_, (wApp D_ br_ l_ d1).1.1), (wApp D_ br_ l_ d1).1.2.1, (wApp D_ br_ l_ d1).1.2.2, endsC (wApp D_ br_ l_ d1).1.2.2) : DwalWal) = ((gd_, D_), (decide (¬ wWrong D_ br_ = 0)), l_, es_) := by first | rfl | (exact fin0_wApp_ok)
            refine ⟨?_, ?_⟩
            rotate_left
            · rw [hm0_]; exact (Ow.up w9_0 (hS_.1 _ (.head _)))
            all_goals (first | rfl | (exact fin0_wApp_ok))
          · -- FF00F
            refine VC.skip ?_
            refine outN ?_
            refine VC.rs ?_
            refine VO.mv ?_
            refine VO.callN 115 rfl fnOk55 rfl (fun W hW => fAppend_ok W (Rd.nil _ _ none 0 (Nat.zero_le _)) (OwnL.rd (Ow.ownl f5_0 rfl mnil) (hW.at (i := 105) rfl) (mle_nil _)) (by exact fin1_wApp_ok)) (fun v15 m15 hv15 => ?_)
            obtain ⟨s15_0, rfl, f15_0⟩ := hv15
            have hfa16 := fAppend_len [] ((cEncode d1).1)
            have hfa17 := fAppend_range [] ((cEncode d1).1)
            obtain ⟨A15_0, c15_0, eq15_0, l15_0, k15_0⟩ := f15_0.slice
            subst eq15_0
            simp only [maxLen] at k15_0
            refine VO.mv ?_
            refine VO.y rfl (.ext rfl rfl) ?_
            refine VO.y rfl (.ext rfl rfl) ?_
            refine VO.as ?_
            refine VO.as ?_
            refine VO.k11 0 1 3 4 5 6 7 8 13 21 31 ?_
            refine VC.seq ?_
            refine VC.rs ?_
            refine VO.mv ?_
            refine VO.y rfl (.neq rfl rfl) ?_
            refine VO.k12 0 1 3 4 5 6 7 8 13 21 31 38 ?_
            refine VC.cond rfl (fun hc18 => ?_) (fun hc18 => ?_)
            · -- FF00FT
              exact absurd (by rw [app_fr (by assumption)]) hc18
            · -- FF00FF
              refine VC.skip ?_
              refine outN ?_
              refine VC.seq ?_
              refine VC.rs ?_
              refine VO.mv ?_
              refine VO.mv ?_
              refine VO.y rfl (.nilp rfl) ?_
              refine VO.y rfl (.fa rfl tst58 rfl) ?_
              obtain ⟨q19_E, q19_A2, q19_c2, q19_A3, q19_c3, q19_n0, q19_n2, q19_n3, _, q19_S, q19_0, q19_2, q19_3⟩ := openP_walWal (x0 := (gd_, D_)) (x1 := (decide (¬ wWrong D_ br_ = 0))) (x2 := l_) (x3 := es_) w9_0
              dsimp only at q19_0
              have q19_r2 := q19_2.rm
              have q19_r3 := q19_3.rm
              refine VO.inv _ (fun _ h => h.parts (i := 1) rfl q19_S [123, 120, 121, 122]) ?_
              refine VO.y rfl (.ld1 123 rfl tk37 rfl (cellsAt_one rfl rfl)) ?_
              refine VO.mv ?_
              refine VO.call 120 rfl fnOk57 rfl rfl (fun W hW => dWrite_ok W (hW.at (i := 120) rfl) q19_0 0 (by simp only [inK]; (exact fin1_wApp_ok)) (OwnL.rd (Ow.ownl f15_0 rfl mnil) (hW.out (i := 120) (j := 115) rfl rfl) (mle_nil _)) (by assumption) (by exact fin1_wApp_ok)) (fun v24 m24 hv24 => ?_)
              obtain ⟨rfl, w24_0⟩ := hv24
              have hfa25 := (write_ok (f := 0) (b := ((fAppend [] ((cEncode d1).1)).1)) (show okD D_ by assumption))
              have hfa26 := (write_w (f := 0) (b := ((fAppend [] ((cEncode d1).1)).1)) (show okD D_ by assumption))
              refine VO.clsP 128 [123, 120, 121, 122] rfl (fun hg28 => (mkP_walWal (gd_, (dWrite D_ 0 ((fAppend [] ((cEncode d1).1)).1)).1) (decide (¬ wWrong D_ br_ = 0)) l_ es_ hg28 w24_0 q19_2 (OwnL.ow (Ow.ownl q19_3 rfl mnil) rfl))) (fun mc28 ho28 => ?_)
              refine VO.call 128 rfl fnOk56 rfl rfl (fun W hW => wTried_ok W (hW.at (i := 128) rfl) ho28 ((dWrite D_ 0 ((fAppend [] ((cEncode d1).1)).1)).2) (by simp only [inK]; (exact fin1_wApp_ok))) (fun v27 m27 hv27 => ?_)
              try dsimp only at hv27
              obtain ⟨rfl, w27_0⟩ := hv27
              refine VO.as ?_
              refine VO.kp [128, 115, 105, 102, 0] [(128, m27), (115, m15), (105, m5), (102, mone g1 (.cells [Value.int .i64 (d1.1), Value.int .i64 (d1.2.1), Value.slice p1_A2 (d1.2.2.length) (p1_c2)].toArray 42 (0, 0))), (0, mout (wm W) (m0))] ?_
              refine VO.k13 0 1 3 4 5 6 7 8 9 13 21 31 38 ?_
              refine VC.rs ?_
              refine VO.mv ?_
              refine VO.y rfl (.neq rfl rfl) ?_
              refine VO.k14 0 1 3 4 5 6 7 8 9 13 21 31 38 49 ?_
              refine VC.cond rfl (fun hc29 => ?_) (fun hc29 => ?_)
              · -- FF00FFT
                refine VC.rs ?_
                refine VO.mv ?_
                refine VO.as ?_
                refine VO.k14 0 1 3 4 5 6 7 8 9 13 21 31 38 49 ?_
                refine VC.ret ?_
                refine outR ?_
                refine ⟨_, _, res_run (rs := [.tmp 4]) rfl (.tmp rfl .nil), fun W_ hI => out_of (l := [m27]) hI [128] rfl rfl (mle_refl _) (fun hS_ => ?_)⟩
                dsimp only [packV]
                have hm0_ : (((gd_, (wApp D_ br_ l_ d1).1.1), (wApp D_ br_ l_ d1).1.2.1, (wApp D_ br_ l_ d1).1.2.2, endsC (wApp D_ br_ l_ d1).1.2.2) : DwalWal) = ((gd_, ((dWrite D_ 0 ((fAppend [] ((cEncode d1).1)).1)).1)), (decide (¬ wWrong D_ br_ = 0)) || decide (¬ ((dWrite D_ 0 ((fAppend [] ((cEncode d1).1)).1)).2) = 0), l_, es_) := by first | rfl | (exact fin0_wApp_ok)
                refine ⟨?_, ?_⟩
                rotate_left
                · rw [hm0_]; exact (Ow.up w27_0 (hS_.1 _ (.head _)))
                all_goals (first | rfl | (exact fin0_wApp_ok))
              · -- FF00FFF
                refine VC.skip ?_
                refine outN ?_
                refine VC.seq ?_
                obtain ⟨q30_E, q30_A2, q30_c2, q30_A3, q30_c3, q30_n0, q30_n2, q30_n3, _, q30_S, q30_0, q30_2, q30_3⟩ := openP_walWal (x0 := (gd_, ((dWrite D_ 0 ((fAppend [] ((cEncode d1).1)).1)).1))) (x1 := (decide (¬ wWrong D_ br_ = 0)) || decide (¬ ((dWrite D_ 0 ((fAppend [] ((cEncode d1).1)).1)).2) = 0)) (x2 := l_) (x3 := es_) w27_0
                dsimp only at q30_0
                have q30_r2 := q30_2.rm
                have q30_r3 := q30_3.rm
                refine VC.inv _ (fun _ h => h.parts (i := 128) rfl q30_S [134, 131, 132, 133]) ?_
                refine VC.regD [(134, mone g0 (.cells [Value.pointer (some ⟨gd_, 0, none⟩), Value.bool ((decide (¬ wWrong D_ br_ = 0)) || decide (¬ ((dWrite D_ 0 ((fAppend [] ((cEncode d1).1)).1)).2) = 0)), Value.slice q30_A2 (l_.length) (q30_c2), Value.slice q30_A3 (es_.length) (q30_c3)].toArray q30_E (0, 0))), (131, q30_n0), (133, q30_n3), (115, m15), (105, m5), (102, mone g1 (.cells [Value.int .i64 (d1.1), Value.int .i64 (d1.2.1), Value.slice p1_A2 (d1.2.2.length) (p1_c2)].toArray 42 (0, 0))), (0, mout (wm W) (m0))] 9 [(0, true), (1, true), (2, true), (3, true), (4, true), (5, true), (6, false), (7, false), (8, false)] follows (by kernel_rfl) (fun _ h => h.sub [134, 131, 133, 115, 105, 102, 0]) ?_
                refine VD.y rfl rfl (.inl rfl) (.mv rfl) ?_
                refine VD.y rfl rfl (.inl rfl) (.mv rfl) ?_
                refine VD.y rfl rfl (.inl rfl) (.nilp rfl) ?_
                refine VD.y rfl rfl (.inl rfl) (.fa rfl tst58 rfl) ?_
                refine VD.y rfl rfl (.inl rfl) (.ld1 134 rfl tk25 rfl (cellsAt_one rfl rfl)) ?_
                refine VD.y rfl rfl (.inl rfl) (.ldA 102 rfl tk42 rfl (cellsAt_one rfl rfl)) ?_
                refine VD.callN 135 rfl rfl (.inl rfl) fnOk58 rfl (fun _ h => Inv.sbK [134, 131, 133, 115, 105, 102, 0] h) (fun W hW => cCopy_ok W (Rd.mono h1 (hW.at (i := 0) rfl)) (by exact fin1_wApp_ok)) (fun v35 m35 hv35 => ?_)
                obtain ⟨s35_0, rfl, f35_0⟩ := hv35
                obtain ⟨q35_0_A2, q35_0_c2, q35_0_n2, rfl, q35_0_S, q35_0_0, q35_0_1, q35_0_2⟩ := openO_Commit (x0 := d1.1) (x1 := d1.2.1) (x2 := d1.2.2) f35_0
                simp only [inK] at q35_0_0
                simp only [inK] at q35_0_1
                have q35_0_r2 := q35_0_2.rm
                refine VD.inv _ (fun _ h => h.parts (i := 135) rfl q35_0_S [136]) ?_
                refine VD.bsl (cs := [Value.int .i64 (d1.1), Value.int .i64 (d1.2.1), Value.slice q35_0_A2 (d1.2.2.length) (q35_0_c2)]) 138 rfl rfl rfl tsl25 tz42 rfl rfl (fun _ h => Inv.sbK [134, 131, 133, 115, 105, 102, 0] h) (fun g37 => ?_)
                refine VD.appO (e := TCommit) 132 136 138 rfl rfl rfl rfl tsl25 tz42 rfl rfl rfl rfl q30_2 (show Ow TCommit _ _ d1 from (mkO_Commit d1.1 d1.2.1 d1.2.2 (Seps.one (mle_refl _)) (by simp only [inK]; (exact fin1_wApp_ok)) (by simp only [inK]; (exact fin1_wApp_ok)) (OwnL.ow (Ow.ownl q35_0_2 rfl mnil) rfl))) Try.underlying25 (cellsAt_one rfl rfl) (by simp only [maxLen]; (exact fin1_wApp_ok)) (by exact fin1_wApp_ok) (by decide) (fun _ _ h => Inv.sbK [134, 131, 133, 115, 105, 102, 0] h) (fun v39 m39 ho39 => ?_)
                obtain ⟨A39, c39, rfl, l39, k39⟩ := ho39.slice
                simp only [maxLen] at k39
                refine VD.nil rfl ?_ rfl
                refine VO.y rfl (.nilp rfl) ?_
                refine VO.y rfl (.fa rfl tst58 rfl) ?_
                refine VO.store (k := 1) (c' := [Value.pointer (some ⟨gd_, 0, none⟩), Value.bool ((decide (¬ wWrong D_ br_ = 0)) || decide (¬ ((dWrite D_ 0 ((fAppend [] ((cEncode d1).1)).1)).2) = 0)), Value.slice A39 ((l_ ++ [d1]).length) (c39), Value.slice q30_A3 (es_.length) (q30_c3)]) 134 rfl rfl (.inr ⟨tk25, rfl⟩) rfl rfl rfl rfl rfl ?_
                refine VO.clsP 140 [134, 131, 132, 133] rfl (fun hg40 => (mkP_walWal (gd_, ((dWrite D_ 0 ((fAppend [] ((cEncode d1).1)).1)).1)) ((decide (¬ wWrong D_ br_ = 0)) || decide (¬ ((dWrite D_ 0 ((fAppend [] ((cEncode d1).1)).1)).2) = 0)) (l_ ++ [d1]) es_ hg40 q30_0 ho39 (OwnL.ow (Ow.ownl q30_3 rfl mnil) rfl))) (fun mc40 ho40 => ?_)
                refine VO.k14 0 1 3 4 5 6 7 8 9 13 21 31 38 49 ?_
                refine outN ?_
                refine VC.seq ?_
                obtain ⟨q41_E, q41_A2, q41_c2, q41_A3, q41_c3, q41_n0, q41_n2, q41_n3, _, q41_S, q41_0, q41_2, q41_3⟩ := openP_walWal (x0 := (gd_, ((dWrite D_ 0 ((fAppend [] ((cEncode d1).1)).1)).1))) (x1 := (decide (¬ wWrong D_ br_ = 0)) || decide (¬ ((dWrite D_ 0 ((fAppend [] ((cEncode d1).1)).1)).2) = 0)) (x2 := l_ ++ [d1]) (x3 := es_) ho40
                dsimp only at q41_0
                have q41_r2 := q41_2.rm
                have q41_r3 := q41_3.rm
                refine VC.inv _ (fun _ h => h.parts (i := 140) rfl q41_S [145, 142, 143, 144]) ?_
                refine VC.regD [(145, mone g0 (.cells [Value.pointer (some ⟨gd_, 0, none⟩), Value.bool ((decide (¬ wWrong D_ br_ = 0)) || decide (¬ ((dWrite D_ 0 ((fAppend [] ((cEncode d1).1)).1)).2) = 0)), Value.slice q41_A2 ((l_ ++ [d1]).length) (q41_c2), Value.slice q41_A3 (es_.length) (q41_c3)].toArray q41_E (0, 0))), (142, q41_n0), (143, q41_n2), (138, mone g37 (.cells [Value.int .i64 (d1.1), Value.int .i64 (d1.2.1), Value.slice q35_0_A2 (d1.2.2.length) (q35_0_c2)].toArray 42 (0, 0))), (115, m15), (105, m5), (102, mone g1 (.cells [Value.int .i64 (d1.1), Value.int .i64 (d1.2.1), Value.slice p1_A2 (d1.2.2.length) (p1_c2)].toArray 42 (0, 0))), (0, mout (wm W) (m0))] 15 [(0, true), (1, true), (2, true), (3, true), (4, true), (5, true), (6, true), (7, true), (8, true), (10, true), (11, true), (9, false), (12, true), (13, false), (14, false)] follows (by kernel_rfl) (fun _ h => h.sub [145, 142, 143, 138, 115, 105, 102, 0]) ?_
                refine VD.y rfl rfl (.inl rfl) (.mv rfl) ?_
                refine VD.y rfl rfl (.inl rfl) (.mv rfl) ?_
                refine VD.y rfl rfl (.inl rfl) (.nilp rfl) ?_
                refine VD.y rfl rfl (.inl rfl) (.fa rfl tst58 rfl) ?_
                refine VD.y rfl rfl (.inl rfl) (.ld1 145 rfl tk56 rfl (cellsAt_one rfl rfl)) ?_
                refine VD.y rfl rfl (.inl rfl) (.mv rfl) ?_
                refine VD.y rfl rfl (.inl rfl) (.nilp rfl) ?_
                refine VD.y rfl rfl (.inl rfl) (.fa rfl tst58 rfl) ?_
                refine VD.y rfl rfl (.inl rfl) (.ld1 145 rfl tk56 rfl (cellsAt_one rfl rfl)) ?_
                refine VD.y rfl rfl (.inl rfl) (.mv rfl) ?_
                refine VD.y rfl rfl (.inl rfl) (.lenS rfl tsl22) ?_
                refine VD.callN 146 rfl rfl (.inl rfl) fnOk41 rfl (fun _ h => Inv.sbK [145, 142, 143, 138, 115, 105, 102, 0] h) (fun W hW => wLength_ok W (OwnL.rd (Ow.ownl q41_3 rfl mnil) (hW.at (i := 144) rfl) (mle_nil _))) (fun v46 m46 hv46 => ?_)
                subst hv46
                refine VD.y rfl rfl (.inl rfl) (.add rfl rfl rfl ⟨by exact fin1_wApp_ok, by exact fin1_wApp_ok⟩) ?_
                refine VD.bsl (cs := [Value.int .i64 ((lenW es_) + ((((fAppend [] ((cEncode d1).1)).1).length : Nat) : Int))]) 148 rfl rfl rfl tsl56 tz3 rfl rfl (fun _ h => Inv.sbK [145, 142, 143, 138, 115, 105, 102, 0] h) (fun g47 => ?_)
                obtain ⟨mo49, cs49, hM49, hA49, hC49⟩ := (Ow.ownl q41_3 rfl mnil)
                refine VD.app 144 rfl rfl rfl rfl tsl56 tz3 rfl rfl hM49 hA49 (.row 148 _ _ _ 1 1 _ _ Try.underlying56 rfl (cellsAt_one rfl rfl)) (by simp [Value.oneCell']) (by simp only [maxLen]; (exact fin1_wApp_ok)) (by exact fin1_wApp_ok) (by decide) (fun _ _ h => Inv.sbK [145, 142, 143, 138, 115, 105, 102, 0] h) (fun v49 m49 hN49 => ?_)
                have ho49 : OwnL (.int .i64) m49 mnil v49 (es_ ++ [((lenW es_) + ((((fAppend [] ((cEncode d1).1)).1).length : Nat) : Int))]) := OwnL.one hC49 hN49 (show Rd (.int .i64) _ [_] _ from ⟨rfl, by simp only [inK]; (exact fin1_wApp_ok)⟩)
                obtain ⟨A49, c49, rfl, l49, k49⟩ := ho49.slice
                simp only [maxLen] at k49
                refine VD.nil rfl ?_ rfl
                refine VO.y rfl (.nilp rfl) ?_
                refine VO.y rfl (.fa rfl tst58 rfl) ?_
                refine VO.store (k := 1) (c' := [Value.pointer (some ⟨gd_, 0, none⟩), Value.bool ((decide (¬ wWrong D_ br_ = 0)) || decide (¬ ((dWrite D_ 0 ((fAppend [] ((cEncode d1).1)).1)).2) = 0)), Value.slice q41_A2 ((l_ ++ [d1]).length) (q41_c2), Value.slice A49 ((es_ ++ [((lenW es_) + ((((fAppend [] ((cEncode d1).1)).1).length : Nat) : Int))]).length) (c49)]) 145 rfl rfl (.inr ⟨tk56, rfl⟩) rfl rfl rfl rfl rfl ?_
                refine VO.clsP 150 [145, 142, 143, 144] rfl (fun hg50 => (mkP_walWal (gd_, ((dWrite D_ 0 ((fAppend [] ((cEncode d1).1)).1)).1)) ((decide (¬ wWrong D_ br_ = 0)) || decide (¬ ((dWrite D_ 0 ((fAppend [] ((cEncode d1).1)).1)).2) = 0)) (l_ ++ [d1]) (es_ ++ [((lenW es_) + ((((fAppend [] ((cEncode d1).1)).1).length : Nat) : Int))]) hg50 q41_0 q41_2 (OwnL.ow ho49 rfl))) (fun mc50 ho50 => ?_)
                refine VO.kp [150, 115, 105, 102, 0] [(150, mc50), (115, m15), (105, m5), (102, mone g1 (.cells [Value.int .i64 (d1.1), Value.int .i64 (d1.2.1), Value.slice p1_A2 (d1.2.2.length) (p1_c2)].toArray 42 (0, 0))), (0, mout (wm W) (m0))] ?_
                refine VO.k14 0 1 3 4 5 6 7 8 9 13 21 31 38 49 ?_
                refine outN ?_
                refine VC.rs ?_
                refine VO.as ?_
                refine VO.k14 0 1 3 4 5 6 7 8 9 13 21 31 38 49 ?_
                refine VC.ret ?_
                refine ⟨_, _, res_run (rs := [.tmp 4]) rfl (.tmp rfl .nil), fun W_ hI => out_of (l := [mc50]) hI [150] rfl rfl (mle_refl _) (fun hS_ => ?_)⟩
                dsimp only [packV]
                have hm0_ : (((gd_, (wApp D_ br_ l_ d1).1.1), (wApp D_ br_ l_ d1).1.2.1, (wApp D_ br_ l_ d1).1.2.2, endsC (wApp D_ br_ l_ d1).1.2.2) : DwalWal) = ((gd_, ((dWrite D_ 0 ((fAppend [] ((cEncode d1).1)).1)).1)), (decide (¬ wWrong D_ br_ = 0)) || decide (¬ ((dWrite D_ 0 ((fAppend [] ((cEncode d1).1)).1)).2) = 0), l_ ++ [d1], es_ ++ [((lenW es_) + ((((fAppend [] ((cEncode d1).1)).1).length : Nat) : Int))]) := by first | rfl | (exact fin0_wApp_ok)
                refine ⟨?_, ?_⟩
                rotate_left
                · rw [hm0_]; exact (Ow.up ho50 (hS_.1 _ (.head _)))
                all_goals (first | rfl | (exact fin0_wApp_ok))
        · -- FF01
          refine VI.bsl (cs := [Value.int .i64 (d1.1), Value.int .i64 (d1.2.1), Value.slice p1_A2 (d1.2.2.length) (p1_c2)]) 152 rfl rfl rfl tsl25 tz42 rfl rfl (fun _ h => Inv.sbK [105, 102, 0] h) (fun g51 => ?_)
          refine VE.tree [3] (by kernel_rfl) ⟨?_, trivial⟩
          refine VI.call 1 rfl rfl (.inl rfl) fnOk31 rfl rfl (fun _ _ h => Inv.sbK [105, 102, 0] h) (fun W hW => wEnd_ok W (hW.at (i := 1) rfl) w8_0) (fun v53 m53 hv53 => ?_)
          try dsimp only at hv53
          obtain ⟨rfl, w53_0⟩ := hv53
          refine VE.nil (by kernel_rfl) rfl ?_ rfl
          have ho55 : OwnL TCommit (mone g51 (.cells [Value.int .i64 (d1.1), Value.int .i64 (d1.2.1), Value.slice p1_A2 (d1.2.2.length) (p1_c2)].toArray 42 (0, 0))) (mout (wm W) (m0)) (Value.slice (some ⟨g51, 0, none⟩) (1) (1)) [d1] := OwnL.lit 1 (All2c.cons (c1 := [Value.int .i64 (d1.1), Value.int .i64 (d1.2.1), Value.slice p1_A2 (d1.2.2.length) (p1_c2)]) (Rd.mono h1 (mle_refl _)) All2c.nil) rfl rfl
          refine VO.callN 154 rfl fnOk54 rfl (fun W hW => follows_ok W (lastOr 0 l_) (by simp only [inK]; (exact fin1_wApp_ok)) ((l_.length : Nat) : Int) (by simp only [inK]; (exact fin1_wApp_ok)) (OwnL.rd ho55 (hW.at (i := 152) rfl) (hW.at (i := 0) rfl))) (fun v54 m54 hv54 => ?_)
          obtain ⟨s54_0, rfl, f54_0⟩ := hv54
          obtain ⟨rfl, q54_0_0, q54_0_1⟩ := open_Fault (x0 := (cFollows (lastOr 0 l_) ((l_.length : Nat) : Int) ([d1])).1) (x1 := (cFollows (lastOr 0 l_) ((l_.length : Nat) : Int) ([d1])).2) (f54_0.rd (mle_refl _))
          simp only [inK] at q54_0_0
          simp only [inK] at q54_0_1
          refine VO.y rfl (.fld1 rfl tst69 rfl tfk69_0 rfl) ?_
          refine VO.y rfl (.neq rfl rfl) ?_
          refine VO.kp [1, 105, 102, 0] [(1, m53), (105, m5), (102, mone g1 (.cells [Value.int .i64 (d1.1), Value.int .i64 (d1.2.1), Value.slice p1_A2 (d1.2.2.length) (p1_c2)].toArray 42 (0, 0))), (0, mout (wm W) (m0))] ?_
          refine VO.k10 0 1 3 4 5 6 7 13 21 31 ?_
          refine outN ?_
          refine VC.cond rfl (fun hc56 => ?_) (fun hc56 => ?_)
          · -- FF01T
            refine VC.rs ?_
            refine VO.as ?_
            refine VO.k10 0 1 3 4 5 6 7 13 21 31 ?_
            refine VC.ret ?_
            refine outR ?_
            refine ⟨_, _, res_run (rs := [.tmp 4]) rfl (.tmp rfl .nil), fun W_ hI => out_of (l := [m53]) hI [1] rfl rfl (mle_refl _) (fun hS_ => ?_)⟩
            dsimp only [packV]
            have hm0_ : (((gd_, (wApp D_ br_ l_ d1).1.1), (wApp D_ br_ l_ d1).1.2.1, (wApp D_ br_ l_ d1).1.2.2, endsC (wApp D_ br_ l_ d1).1.2.2) : DwalWal) = ((gd_, D_), (decide (¬ wWrong D_ br_ = 0)), l_, es_) := by first | rfl | (exact fin0_wApp_ok)
            refine ⟨?_, ?_⟩
            rotate_left
            · rw [hm0_]; exact (Ow.up w53_0 (hS_.1 _ (.head _)))
            all_goals (first | rfl | (exact fin0_wApp_ok))
          · -- FF01F
            refine VC.skip ?_
            refine outN ?_
            refine VC.rs ?_
            refine VO.mv ?_
            refine VO.callN 157 rfl fnOk55 rfl (fun W hW => fAppend_ok W (Rd.nil _ _ none 0 (Nat.zero_le _)) (OwnL.rd (Ow.ownl f5_0 rfl mnil) (hW.at (i := 105) rfl) (mle_nil _)) (by exact fin1_wApp_ok)) (fun v57 m57 hv57 => ?_)
            obtain ⟨s57_0, rfl, f57_0⟩ := hv57
            have hfa58 := fAppend_len [] ((cEncode d1).1)
            have hfa59 := fAppend_range [] ((cEncode d1).1)
            obtain ⟨A57_0, c57_0, eq57_0, l57_0, k57_0⟩ := f57_0.slice
            subst eq57_0
            simp only [maxLen] at k57_0
            refine VO.mv ?_
            refine VO.y rfl (.ext rfl rfl) ?_
            refine VO.y rfl (.ext rfl rfl) ?_
            refine VO.as ?_
            refine VO.as ?_
            refine VO.k11 0 1 3 4 5 6 7 8 13 21 31 ?_
            refine VC.seq ?_
            refine VC.rs ?_
            refine VO.mv ?_
            refine VO.y rfl (.neq rfl rfl) ?_
            refine VO.k12 0 1 3 4 5 6 7 8 13 21 31 38 ?_
            refine VC.cond rfl (fun hc60 => ?_) (fun hc60 => ?_)
            · -- FF01FT
              exact absurd (by rw [app_fr (by assumption)]) hc60
            · -- FF01FF
              refine VC.skip ?_
              refine outN ?_
              refine VC.seq ?_
              refine VC.rs ?_
              refine VO.mv ?_
              refine VO.mv ?_
              refine VO.y rfl (.nilp rfl) ?_
              refine VO.y rfl (.fa rfl tst58 rfl) ?_
              obtain ⟨q61_E, q61_A2, q61_c2, q61_A3, q61_c3, q61_n0, q61_n2, q61_n3, _, q61_S, q61_0, q61_2, q61_3⟩ := openP_walWal (x0 := (gd_, D_)) (x1 := (decide (¬ wWrong D_ br_ = 0))) (x2 := l_) (x3 := es_) w53_0
              dsimp only at q61_0
              have q61_r2 := q61_2.rm
              have q61_r3 := q61_3.rm
              refine VO.inv _ (fun _ h => h.parts (i := 1) rfl q61_S [165, 162, 163, 164]) ?_
              refine VO.y rfl (.ld1 165 rfl tk37 rfl (cellsAt_one rfl rfl)) ?_
              refine VO.mv ?_
              refine VO.call 162 rfl fnOk57 rfl rfl (fun W hW => dWrite_ok W (hW.at (i := 162) rfl) q61_0 0 (by simp only [inK]; (exact fin1_wApp_ok)) (OwnL.rd (Ow.ownl f57_0 rfl mnil) (hW.out (i := 162) (j := 157) rfl rfl) (mle_nil _)) (by assumption) (by exact fin1_wApp_ok)) (fun v66 m66 hv66 => ?_)
              obtain ⟨rfl, w66_0⟩ := hv66
              have hfa67 := (write_ok (f := 0) (b := ((fAppend [] ((cEncode d1).1)).1)) (show okD D_ by assumption))
              have hfa68 := (write_w (f := 0) (b := ((fAppend [] ((cEncode d1).1)).1)) (show okD D_ by assumption))
              refine VO.clsP 170 [165, 162, 163, 164] rfl (fun hg70 => (mkP_walWal (gd_, (dWrite D_ 0 ((fAppend [] ((cEncode d1).1)).1)).1) (decide (¬ wWrong D_ br_ = 0)) l_ es_ hg70 w66_0 q61_2 (OwnL.ow (Ow.ownl q61_3 rfl mnil) rfl))) (fun mc70 ho70 => ?_)
              refine VO.call 170 rfl fnOk56 rfl rfl (fun W hW => wTried_ok W (hW.at (i := 170) rfl) ho70 ((dWrite D_ 0 ((fAppend [] ((cEncode d1).1)).1)).2) (by simp only [inK]; (exact fin1_wApp_ok))) (fun v69 m69 hv69 => ?_)
              try dsimp only at hv69
              obtain ⟨rfl, w69_0⟩ := hv69
              refine VO.as ?_
              refine VO.kp [170, 157, 105, 102, 0] [(170, m69), (157, m57), (105, m5), (102, mone g1 (.cells [Value.int .i64 (d1.1), Value.int .i64 (d1.2.1), Value.slice p1_A2 (d1.2.2.length) (p1_c2)].toArray 42 (0, 0))), (0, mout (wm W) (m0))] ?_
              refine VO.k13 0 1 3 4 5 6 7 8 9 13 21 31 38 ?_
              refine VC.rs ?_
              refine VO.mv ?_
              refine VO.y rfl (.neq rfl rfl) ?_
              refine VO.k14 0 1 3 4 5 6 7 8 9 13 21 31 38 49 ?_
              refine VC.cond rfl (fun hc71 => ?_) (fun hc71 => ?_)
              · -- FF01FFT
                refine VC.rs ?_
                refine VO.mv ?_
                refine VO.as ?_
                refine VO.k14 0 1 3 4 5 6 7 8 9 13 21 31 38 49 ?_
                refine VC.ret ?_
                refine outR ?_
                refine ⟨_, _, res_run (rs := [.tmp 4]) rfl (.tmp rfl .nil), fun W_ hI => out_of (l := [m69]) hI [170] rfl rfl (mle_refl _) (fun hS_ => ?_)⟩
                dsimp only [packV]
                have hm0_ : (((gd_, (wApp D_ br_ l_ d1).1.1), (wApp D_ br_ l_ d1).1.2.1, (wApp D_ br_ l_ d1).1.2.2, endsC (wApp D_ br_ l_ d1).1.2.2) : DwalWal) = ((gd_, ((dWrite D_ 0 ((fAppend [] ((cEncode d1).1)).1)).1)), (decide (¬ wWrong D_ br_ = 0)) || decide (¬ ((dWrite D_ 0 ((fAppend [] ((cEncode d1).1)).1)).2) = 0), l_, es_) := by first | rfl | (exact fin0_wApp_ok)
                refine ⟨?_, ?_⟩
                rotate_left
                · rw [hm0_]; exact (Ow.up w69_0 (hS_.1 _ (.head _)))
                all_goals (first | rfl | (exact fin0_wApp_ok))
              · -- FF01FFF
                refine VC.skip ?_
                refine outN ?_
                refine VC.seq ?_
                obtain ⟨q72_E, q72_A2, q72_c2, q72_A3, q72_c3, q72_n0, q72_n2, q72_n3, _, q72_S, q72_0, q72_2, q72_3⟩ := openP_walWal (x0 := (gd_, ((dWrite D_ 0 ((fAppend [] ((cEncode d1).1)).1)).1))) (x1 := (decide (¬ wWrong D_ br_ = 0)) || decide (¬ ((dWrite D_ 0 ((fAppend [] ((cEncode d1).1)).1)).2) = 0)) (x2 := l_) (x3 := es_) w69_0
                dsimp only at q72_0
                have q72_r2 := q72_2.rm
                have q72_r3 := q72_3.rm
                refine VC.inv _ (fun _ h => h.parts (i := 170) rfl q72_S [176, 173, 174, 175]) ?_
                refine VC.regD [(176, mone g0 (.cells [Value.pointer (some ⟨gd_, 0, none⟩), Value.bool ((decide (¬ wWrong D_ br_ = 0)) || decide (¬ ((dWrite D_ 0 ((fAppend [] ((cEncode d1).1)).1)).2) = 0)), Value.slice q72_A2 (l_.length) (q72_c2), Value.slice q72_A3 (es_.length) (q72_c3)].toArray q72_E (0, 0))), (173, q72_n0), (175, q72_n3), (157, m57), (105, m5), (102, mone g1 (.cells [Value.int .i64 (d1.1), Value.int .i64 (d1.2.1), Value.slice p1_A2 (d1.2.2.length) (p1_c2)].toArray 42 (0, 0))), (0, mout (wm W) (m0))] 9 [(0, true), (1, true), (2, true), (3, true), (4, true), (5, true), (6, false), (7, false), (8, false)] follows (by kernel_rfl) (fun _ h => h.sub [176, 173, 175, 157, 105, 102, 0]) ?_
                refine VD.y rfl rfl (.inl rfl) (.mv rfl) ?_
                refine VD.y rfl rfl (.inl rfl) (.mv rfl) ?_
                refine VD.y rfl rfl (.inl rfl) (.nilp rfl) ?_
                refine VD.y rfl rfl (.inl rfl) (.fa rfl tst58 rfl) ?_
                refine VD.y rfl rfl (.inl rfl) (.ld1 176 rfl tk25 rfl (cellsAt_one rfl rfl)) ?_
                refine VD.y rfl rfl (.inl rfl) (.ldA 102 rfl tk42 rfl (cellsAt_one rfl rfl)) ?_
                refine VD.callN 177 rfl rfl (.inl rfl) fnOk58 rfl (fun _ h => Inv.sbK [176, 173, 175, 157, 105, 102, 0] h) (fun W hW => cCopy_ok W (Rd.mono h1 (hW.at (i := 0) rfl)) (by exact fin1_wApp_ok)) (fun v77 m77 hv77 => ?_)
                obtain ⟨s77_0, rfl, f77_0⟩ := hv77
                obtain ⟨q77_0_A2, q77_0_c2, q77_0_n2, rfl, q77_0_S, q77_0_0, q77_0_1, q77_0_2⟩ := openO_Commit (x0 := d1.1) (x1 := d1.2.1) (x2 := d1.2.2) f77_0
                simp only [inK] at q77_0_0
                simp only [inK] at q77_0_1
                have q77_0_r2 := q77_0_2.rm
                refine VD.inv _ (fun _ h => h.parts (i := 177) rfl q77_0_S [178]) ?_
                refine VD.bsl (cs := [Value.int .i64 (d1.1), Value.int .i64 (d1.2.1), Value.slice q77_0_A2 (d1.2.2.length) (q77_0_c2)]) 180 rfl rfl rfl tsl25 tz42 rfl rfl (fun _ h => Inv.sbK [176, 173, 175, 157, 105, 102, 0] h) (fun g79 => ?_)
                refine VD.appO (e := TCommit) 174 178 180 rfl rfl rfl rfl tsl25 tz42 rfl rfl rfl rfl q72_2 (show Ow TCommit _ _ d1 from (mkO_Commit d1.1 d1.2.1 d1.2.2 (Seps.one (mle_refl _)) (by simp only [inK]; (exact fin1_wApp_ok)) (by simp only [inK]; (exact fin1_wApp_ok)) (OwnL.ow (Ow.ownl q77_0_2 rfl mnil) rfl))) Try.underlying25 (cellsAt_one rfl rfl) (by simp only [maxLen]; (exact fin1_wApp_ok)) (by exact fin1_wApp_ok) (by decide) (fun _ _ h => Inv.sbK [176, 173, 175, 157, 105, 102, 0] h) (fun v81 m81 ho81 => ?_)
                obtain ⟨A81, c81, rfl, l81, k81⟩ := ho81.slice
                simp only [maxLen] at k81
                refine VD.nil rfl ?_ rfl
                refine VO.y rfl (.nilp rfl) ?_
                refine VO.y rfl (.fa rfl tst58 rfl) ?_
                refine VO.store (k := 1) (c' := [Value.pointer (some ⟨gd_, 0, none⟩), Value.bool ((decide (¬ wWrong D_ br_ = 0)) || decide (¬ ((dWrite D_ 0 ((fAppend [] ((cEncode d1).1)).1)).2) = 0)), Value.slice A81 ((l_ ++ [d1]).length) (c81), Value.slice q72_A3 (es_.length) (q72_c3)]) 176 rfl rfl (.inr ⟨tk25, rfl⟩) rfl rfl rfl rfl rfl ?_
                refine VO.clsP 182 [176, 173, 174, 175] rfl (fun hg82 => (mkP_walWal (gd_, ((dWrite D_ 0 ((fAppend [] ((cEncode d1).1)).1)).1)) ((decide (¬ wWrong D_ br_ = 0)) || decide (¬ ((dWrite D_ 0 ((fAppend [] ((cEncode d1).1)).1)).2) = 0)) (l_ ++ [d1]) es_ hg82 q72_0 ho81 (OwnL.ow (Ow.ownl q72_3 rfl mnil) rfl))) (fun mc82 ho82 => ?_)
                refine VO.k14 0 1 3 4 5 6 7 8 9 13 21 31 38 49 ?_
                refine outN ?_
                refine VC.seq ?_
                obtain ⟨q83_E, q83_A2, q83_c2, q83_A3, q83_c3, q83_n0, q83_n2, q83_n3, _, q83_S, q83_0, q83_2, q83_3⟩ := openP_walWal (x0 := (gd_, ((dWrite D_ 0 ((fAppend [] ((cEncode d1).1)).1)).1))) (x1 := (decide (¬ wWrong D_ br_ = 0)) || decide (¬ ((dWrite D_ 0 ((fAppend [] ((cEncode d1).1)).1)).2) = 0)) (x2 := l_ ++ [d1]) (x3 := es_) ho82
                dsimp only at q83_0
                have q83_r2 := q83_2.rm
                have q83_r3 := q83_3.rm
                refine VC.inv _ (fun _ h => h.parts (i := 182) rfl q83_S [187, 184, 185, 186]) ?_
                refine VC.regD [(187, mone g0 (.cells [Value.pointer (some ⟨gd_, 0, none⟩), Value.bool ((decide (¬ wWrong D_ br_ = 0)) || decide (¬ ((dWrite D_ 0 ((fAppend [] ((cEncode d1).1)).1)).2) = 0)), Value.slice q83_A2 ((l_ ++ [d1]).length) (q83_c2), Value.slice q83_A3 (es_.length) (q83_c3)].toArray q83_E (0, 0))), (184, q83_n0), (185, q83_n2), (180, mone g79 (.cells [Value.int .i64 (d1.1), Value.int .i64 (d1.2.1), Value.slice q77_0_A2 (d1.2.2.length) (q77_0_c2)].toArray 42 (0, 0))), (157, m57), (105, m5), (102, mone g1 (.cells [Value.int .i64 (d1.1), Value.int .i64 (d1.2.1), Value.slice p1_A2 (d1.2.2.length) (p1_c2)].toArray 42 (0, 0))), (0, mout (wm W) (m0))] 15 [(0, true), (1, true), (2, true), (3, true), (4, true), (5, true), (6, true), (7, true), (8, true), (10, true), (11, true), (9, false), (12, true), (13, false), (14, false)] follows (by kernel_rfl) (fun _ h => h.sub [187, 184, 185, 180, 157, 105, 102, 0]) ?_
                refine VD.y rfl rfl (.inl rfl) (.mv rfl) ?_
                refine VD.y rfl rfl (.inl rfl) (.mv rfl) ?_
                refine VD.y rfl rfl (.inl rfl) (.nilp rfl) ?_
                refine VD.y rfl rfl (.inl rfl) (.fa rfl tst58 rfl) ?_
                refine VD.y rfl rfl (.inl rfl) (.ld1 187 rfl tk56 rfl (cellsAt_one rfl rfl)) ?_
                refine VD.y rfl rfl (.inl rfl) (.mv rfl) ?_
                refine VD.y rfl rfl (.inl rfl) (.nilp rfl) ?_
                refine VD.y rfl rfl (.inl rfl) (.fa rfl tst58 rfl) ?_
                refine VD.y rfl rfl (.inl rfl) (.ld1 187 rfl tk56 rfl (cellsAt_one rfl rfl)) ?_
                refine VD.y rfl rfl (.inl rfl) (.mv rfl) ?_
                refine VD.y rfl rfl (.inl rfl) (.lenS rfl tsl22) ?_
                refine VD.callN 188 rfl rfl (.inl rfl) fnOk41 rfl (fun _ h => Inv.sbK [187, 184, 185, 180, 157, 105, 102, 0] h) (fun W hW => wLength_ok W (OwnL.rd (Ow.ownl q83_3 rfl mnil) (hW.at (i := 186) rfl) (mle_nil _))) (fun v88 m88 hv88 => ?_)
                subst hv88
                refine VD.y rfl rfl (.inl rfl) (.add rfl rfl rfl ⟨by exact fin1_wApp_ok, by exact fin1_wApp_ok⟩) ?_
                refine VD.bsl (cs := [Value.int .i64 ((lenW es_) + ((((fAppend [] ((cEncode d1).1)).1).length : Nat) : Int))]) 190 rfl rfl rfl tsl56 tz3 rfl rfl (fun _ h => Inv.sbK [187, 184, 185, 180, 157, 105, 102, 0] h) (fun g89 => ?_)
                obtain ⟨mo91, cs91, hM91, hA91, hC91⟩ := (Ow.ownl q83_3 rfl mnil)
                refine VD.app 186 rfl rfl rfl rfl tsl56 tz3 rfl rfl hM91 hA91 (.row 190 _ _ _ 1 1 _ _ Try.underlying56 rfl (cellsAt_one rfl rfl)) (by simp [Value.oneCell']) (by simp only [maxLen]; (exact fin1_wApp_ok)) (by exact fin1_wApp_ok) (by decide) (fun _ _ h => Inv.sbK [187, 184, 185, 180, 157, 105, 102, 0] h) (fun v91 m91 hN91 => ?_)
                have ho91 : OwnL (.int .i64) m91 mnil v91 (es_ ++ [((lenW es_) + ((((fAppend [] ((cEncode d1).1)).1).length : Nat) : Int))]) := OwnL.one hC91 hN91 (show Rd (.int .i64) _ [_] _ from ⟨rfl, by simp only [inK]; (exact fin1_wApp_ok)⟩)
                obtain ⟨A91, c91, rfl, l91, k91⟩ := ho91.slice
                simp only [maxLen] at k91
                refine VD.nil rfl ?_ rfl
                refine VO.y rfl (.nilp rfl) ?_
                refine VO.y rfl (.fa rfl tst58 rfl) ?_
                refine VO.store (k := 1) (c' := [Value.pointer (some ⟨gd_, 0, none⟩), Value.bool ((decide (¬ wWrong D_ br_ = 0)) || decide (¬ ((dWrite D_ 0 ((fAppend [] ((cEncode d1).1)).1)).2) = 0)), Value.slice q83_A2 ((l_ ++ [d1]).length) (q83_c2), Value.slice A91 ((es_ ++ [((lenW es_) + ((((fAppend [] ((cEncode d1).1)).1).length : Nat) : Int))]).length) (c91)]) 187 rfl rfl (.inr ⟨tk56, rfl⟩) rfl rfl rfl rfl rfl ?_
                refine VO.clsP 192 [187, 184, 185, 186] rfl (fun hg92 => (mkP_walWal (gd_, ((dWrite D_ 0 ((fAppend [] ((cEncode d1).1)).1)).1)) ((decide (¬ wWrong D_ br_ = 0)) || decide (¬ ((dWrite D_ 0 ((fAppend [] ((cEncode d1).1)).1)).2) = 0)) (l_ ++ [d1]) (es_ ++ [((lenW es_) + ((((fAppend [] ((cEncode d1).1)).1).length : Nat) : Int))]) hg92 q83_0 q83_2 (OwnL.ow ho91 rfl))) (fun mc92 ho92 => ?_)
                refine VO.kp [192, 157, 105, 102, 0] [(192, mc92), (157, m57), (105, m5), (102, mone g1 (.cells [Value.int .i64 (d1.1), Value.int .i64 (d1.2.1), Value.slice p1_A2 (d1.2.2.length) (p1_c2)].toArray 42 (0, 0))), (0, mout (wm W) (m0))] ?_
                refine VO.k14 0 1 3 4 5 6 7 8 9 13 21 31 38 49 ?_
                refine outN ?_
                refine VC.rs ?_
                refine VO.as ?_
                refine VO.k14 0 1 3 4 5 6 7 8 9 13 21 31 38 49 ?_
                refine VC.ret ?_
                refine ⟨_, _, res_run (rs := [.tmp 4]) rfl (.tmp rfl .nil), fun W_ hI => out_of (l := [mc92]) hI [192] rfl rfl (mle_refl _) (fun hS_ => ?_)⟩
                dsimp only [packV]
                have hm0_ : (((gd_, (wApp D_ br_ l_ d1).1.1), (wApp D_ br_ l_ d1).1.2.1, (wApp D_ br_ l_ d1).1.2.2, endsC (wApp D_ br_ l_ d1).1.2.2) : DwalWal) = ((gd_, ((dWrite D_ 0 ((fAppend [] ((cEncode d1).1)).1)).1)), (decide (¬ wWrong D_ br_ = 0)) || decide (¬ ((dWrite D_ 0 ((fAppend [] ((cEncode d1).1)).1)).2) = 0), l_ ++ [d1], es_ ++ [((lenW es_) + ((((fAppend [] ((cEncode d1).1)).1).length : Nat) : Int))]) := by first | rfl | (exact fin0_wApp_ok)
                refine ⟨?_, ?_⟩
                rotate_left
                · rw [hm0_]; exact (Ow.up ho92 (hS_.1 _ (.head _)))
                all_goals (first | rfl | (exact fin0_wApp_ok))
      · -- FF1
        refine VI.bsl (cs := [Value.int .i64 (d1.1), Value.int .i64 (d1.2.1), Value.slice p1_A2 (d1.2.2.length) (p1_c2)]) 194 rfl rfl rfl tsl25 tz42 rfl rfl (fun _ h => Inv.sbK [105, 102, 0] h) (fun g93 => ?_)
        refine VE.tree [1] (by kernel_rfl) ⟨?_, trivial⟩
        refine VI.call 1 rfl rfl (.inl rfl) fnOk20 rfl rfl (fun _ _ h => Inv.sbK [105, 102, 0] h) (fun W hW => wEpoch_ok W (hW.at (i := 1) rfl) w3_0) (fun v95 m95 hv95 => ?_)
        try dsimp only at hv95
        obtain ⟨rfl, w95_0⟩ := hv95
        refine VE.tree [3] (by kernel_rfl) ⟨?_, trivial⟩
        refine VI.call 1 rfl rfl (.inl rfl) fnOk31 rfl rfl (fun _ _ h => Inv.sbK [105, 102, 0] h) (fun W hW => wEnd_ok W (hW.at (i := 1) rfl) w95_0) (fun v96 m96 hv96 => ?_)
        try dsimp only at hv96
        obtain ⟨rfl, w96_0⟩ := hv96
        refine VE.nil (by kernel_rfl) rfl ?_ rfl
        have ho98 : OwnL TCommit (mone g93 (.cells [Value.int .i64 (d1.1), Value.int .i64 (d1.2.1), Value.slice p1_A2 (d1.2.2.length) (p1_c2)].toArray 42 (0, 0))) (mout (wm W) (m0)) (Value.slice (some ⟨g93, 0, none⟩) (1) (1)) [d1] := OwnL.lit 1 (All2c.cons (c1 := [Value.int .i64 (d1.1), Value.int .i64 (d1.2.1), Value.slice p1_A2 (d1.2.2.length) (p1_c2)]) (Rd.mono h1 (mle_refl _)) All2c.nil) rfl rfl
        refine VO.callN 197 rfl fnOk54 rfl (fun W hW => follows_ok W (lastOr 0 l_) (by simp only [inK]; (exact fin1_wApp_ok)) ((l_.length : Nat) : Int) (by simp only [inK]; (exact fin1_wApp_ok)) (OwnL.rd ho98 (hW.at (i := 194) rfl) (hW.at (i := 0) rfl))) (fun v97 m97 hv97 => ?_)
        obtain ⟨s97_0, rfl, f97_0⟩ := hv97
        obtain ⟨rfl, q97_0_0, q97_0_1⟩ := open_Fault (x0 := (cFollows (lastOr 0 l_) ((l_.length : Nat) : Int) ([d1])).1) (x1 := (cFollows (lastOr 0 l_) ((l_.length : Nat) : Int) ([d1])).2) (f97_0.rd (mle_refl _))
        simp only [inK] at q97_0_0
        simp only [inK] at q97_0_1
        refine VO.y rfl (.fld1 rfl tst69 rfl tfk69_0 rfl) ?_
        refine VO.y rfl (.neq rfl rfl) ?_
        refine VO.kp [1, 105, 102, 0] [(1, m96), (105, m5), (102, mone g1 (.cells [Value.int .i64 (d1.1), Value.int .i64 (d1.2.1), Value.slice p1_A2 (d1.2.2.length) (p1_c2)].toArray 42 (0, 0))), (0, mout (wm W) (m0))] ?_
        refine VO.k10 0 1 3 4 5 6 7 13 21 31 ?_
        refine outN ?_
        refine VC.cond rfl (fun hc99 => ?_) (fun hc99 => ?_)
        · -- FF1T
          refine VC.rs ?_
          refine VO.as ?_
          refine VO.k10 0 1 3 4 5 6 7 13 21 31 ?_
          refine VC.ret ?_
          refine outR ?_
          refine ⟨_, _, res_run (rs := [.tmp 4]) rfl (.tmp rfl .nil), fun W_ hI => out_of (l := [m96]) hI [1] rfl rfl (mle_refl _) (fun hS_ => ?_)⟩
          dsimp only [packV]
          have hm0_ : (((gd_, (wApp D_ br_ l_ d1).1.1), (wApp D_ br_ l_ d1).1.2.1, (wApp D_ br_ l_ d1).1.2.2, endsC (wApp D_ br_ l_ d1).1.2.2) : DwalWal) = ((gd_, D_), (decide (¬ wWrong D_ br_ = 0)), l_, es_) := by first | rfl | (exact fin0_wApp_ok)
          refine ⟨?_, ?_⟩
          rotate_left
          · rw [hm0_]; exact (Ow.up w96_0 (hS_.1 _ (.head _)))
          all_goals (first | rfl | (exact fin0_wApp_ok))
        · -- FF1F
          refine VC.skip ?_
          refine outN ?_
          refine VC.rs ?_
          refine VO.mv ?_
          refine VO.callN 200 rfl fnOk55 rfl (fun W hW => fAppend_ok W (Rd.nil _ _ none 0 (Nat.zero_le _)) (OwnL.rd (Ow.ownl f5_0 rfl mnil) (hW.at (i := 105) rfl) (mle_nil _)) (by exact fin1_wApp_ok)) (fun v100 m100 hv100 => ?_)
          obtain ⟨s100_0, rfl, f100_0⟩ := hv100
          have hfa101 := fAppend_len [] ((cEncode d1).1)
          have hfa102 := fAppend_range [] ((cEncode d1).1)
          obtain ⟨A100_0, c100_0, eq100_0, l100_0, k100_0⟩ := f100_0.slice
          subst eq100_0
          simp only [maxLen] at k100_0
          refine VO.mv ?_
          refine VO.y rfl (.ext rfl rfl) ?_
          refine VO.y rfl (.ext rfl rfl) ?_
          refine VO.as ?_
          refine VO.as ?_
          refine VO.k11 0 1 3 4 5 6 7 8 13 21 31 ?_
          refine VC.seq ?_
          refine VC.rs ?_
          refine VO.mv ?_
          refine VO.y rfl (.neq rfl rfl) ?_
          refine VO.k12 0 1 3 4 5 6 7 8 13 21 31 38 ?_
          refine VC.cond rfl (fun hc103 => ?_) (fun hc103 => ?_)
          · -- FF1FT
            exact absurd (by rw [app_fr (by assumption)]) hc103
          · -- FF1FF
            refine VC.skip ?_
            refine outN ?_
            refine VC.seq ?_
            refine VC.rs ?_
            refine VO.mv ?_
            refine VO.mv ?_
            refine VO.y rfl (.nilp rfl) ?_
            refine VO.y rfl (.fa rfl tst58 rfl) ?_
            obtain ⟨q104_E, q104_A2, q104_c2, q104_A3, q104_c3, q104_n0, q104_n2, q104_n3, _, q104_S, q104_0, q104_2, q104_3⟩ := openP_walWal (x0 := (gd_, D_)) (x1 := (decide (¬ wWrong D_ br_ = 0))) (x2 := l_) (x3 := es_) w96_0
            dsimp only at q104_0
            have q104_r2 := q104_2.rm
            have q104_r3 := q104_3.rm
            refine VO.inv _ (fun _ h => h.parts (i := 1) rfl q104_S [208, 205, 206, 207]) ?_
            refine VO.y rfl (.ld1 208 rfl tk37 rfl (cellsAt_one rfl rfl)) ?_
            refine VO.mv ?_
            refine VO.call 205 rfl fnOk57 rfl rfl (fun W hW => dWrite_ok W (hW.at (i := 205) rfl) q104_0 0 (by simp only [inK]; (exact fin1_wApp_ok)) (OwnL.rd (Ow.ownl f100_0 rfl mnil) (hW.out (i := 205) (j := 200) rfl rfl) (mle_nil _)) (by assumption) (by exact fin1_wApp_ok)) (fun v109 m109 hv109 => ?_)
            obtain ⟨rfl, w109_0⟩ := hv109
            have hfa110 := (write_ok (f := 0) (b := ((fAppend [] ((cEncode d1).1)).1)) (show okD D_ by assumption))
            have hfa111 := (write_w (f := 0) (b := ((fAppend [] ((cEncode d1).1)).1)) (show okD D_ by assumption))
            refine VO.clsP 213 [208, 205, 206, 207] rfl (fun hg113 => (mkP_walWal (gd_, (dWrite D_ 0 ((fAppend [] ((cEncode d1).1)).1)).1) (decide (¬ wWrong D_ br_ = 0)) l_ es_ hg113 w109_0 q104_2 (OwnL.ow (Ow.ownl q104_3 rfl mnil) rfl))) (fun mc113 ho113 => ?_)
            refine VO.call 213 rfl fnOk56 rfl rfl (fun W hW => wTried_ok W (hW.at (i := 213) rfl) ho113 ((dWrite D_ 0 ((fAppend [] ((cEncode d1).1)).1)).2) (by simp only [inK]; (exact fin1_wApp_ok))) (fun v112 m112 hv112 => ?_)
            try dsimp only at hv112
            obtain ⟨rfl, w112_0⟩ := hv112
            refine VO.as ?_
            refine VO.kp [213, 200, 105, 102, 0] [(213, m112), (200, m100), (105, m5), (102, mone g1 (.cells [Value.int .i64 (d1.1), Value.int .i64 (d1.2.1), Value.slice p1_A2 (d1.2.2.length) (p1_c2)].toArray 42 (0, 0))), (0, mout (wm W) (m0))] ?_
            refine VO.k13 0 1 3 4 5 6 7 8 9 13 21 31 38 ?_
            refine VC.rs ?_
            refine VO.mv ?_
            refine VO.y rfl (.neq rfl rfl) ?_
            refine VO.k14 0 1 3 4 5 6 7 8 9 13 21 31 38 49 ?_
            refine VC.cond rfl (fun hc114 => ?_) (fun hc114 => ?_)
            · -- FF1FFT
              refine VC.rs ?_
              refine VO.mv ?_
              refine VO.as ?_
              refine VO.k14 0 1 3 4 5 6 7 8 9 13 21 31 38 49 ?_
              refine VC.ret ?_
              refine outR ?_
              refine ⟨_, _, res_run (rs := [.tmp 4]) rfl (.tmp rfl .nil), fun W_ hI => out_of (l := [m112]) hI [213] rfl rfl (mle_refl _) (fun hS_ => ?_)⟩
              dsimp only [packV]
              have hm0_ : (((gd_, (wApp D_ br_ l_ d1).1.1), (wApp D_ br_ l_ d1).1.2.1, (wApp D_ br_ l_ d1).1.2.2, endsC (wApp D_ br_ l_ d1).1.2.2) : DwalWal) = ((gd_, ((dWrite D_ 0 ((fAppend [] ((cEncode d1).1)).1)).1)), (decide (¬ wWrong D_ br_ = 0)) || decide (¬ ((dWrite D_ 0 ((fAppend [] ((cEncode d1).1)).1)).2) = 0), l_, es_) := by first | rfl | (exact fin0_wApp_ok)
              refine ⟨?_, ?_⟩
              rotate_left
              · rw [hm0_]; exact (Ow.up w112_0 (hS_.1 _ (.head _)))
              all_goals (first | rfl | (exact fin0_wApp_ok))
            · -- FF1FFF
              refine VC.skip ?_
              refine outN ?_
              refine VC.seq ?_
              obtain ⟨q115_E, q115_A2, q115_c2, q115_A3, q115_c3, q115_n0, q115_n2, q115_n3, _, q115_S, q115_0, q115_2, q115_3⟩ := openP_walWal (x0 := (gd_, ((dWrite D_ 0 ((fAppend [] ((cEncode d1).1)).1)).1))) (x1 := (decide (¬ wWrong D_ br_ = 0)) || decide (¬ ((dWrite D_ 0 ((fAppend [] ((cEncode d1).1)).1)).2) = 0)) (x2 := l_) (x3 := es_) w112_0
              dsimp only at q115_0
              have q115_r2 := q115_2.rm
              have q115_r3 := q115_3.rm
              refine VC.inv _ (fun _ h => h.parts (i := 213) rfl q115_S [219, 216, 217, 218]) ?_
              refine VC.regD [(219, mone g0 (.cells [Value.pointer (some ⟨gd_, 0, none⟩), Value.bool ((decide (¬ wWrong D_ br_ = 0)) || decide (¬ ((dWrite D_ 0 ((fAppend [] ((cEncode d1).1)).1)).2) = 0)), Value.slice q115_A2 (l_.length) (q115_c2), Value.slice q115_A3 (es_.length) (q115_c3)].toArray q115_E (0, 0))), (216, q115_n0), (218, q115_n3), (200, m100), (105, m5), (102, mone g1 (.cells [Value.int .i64 (d1.1), Value.int .i64 (d1.2.1), Value.slice p1_A2 (d1.2.2.length) (p1_c2)].toArray 42 (0, 0))), (0, mout (wm W) (m0))] 9 [(0, true), (1, true), (2, true), (3, true), (4, true), (5, true), (6, false), (7, false), (8, false)] follows (by kernel_rfl) (fun _ h => h.sub [219, 216, 218, 200, 105, 102, 0]) ?_
              refine VD.y rfl rfl (.inl rfl) (.mv rfl) ?_
              refine VD.y rfl rfl (.inl rfl) (.mv rfl) ?_
              refine VD.y rfl rfl (.inl rfl) (.nilp rfl) ?_
              refine VD.y rfl rfl (.inl rfl) (.fa rfl tst58 rfl) ?_
              refine VD.y rfl rfl (.inl rfl) (.ld1 219 rfl tk25 rfl (cellsAt_one rfl rfl)) ?_
              refine VD.y rfl rfl (.inl rfl) (.ldA 102 rfl tk42 rfl (cellsAt_one rfl rfl)) ?_
              refine VD.callN 220 rfl rfl (.inl rfl) fnOk58 rfl (fun _ h => Inv.sbK [219, 216, 218, 200, 105, 102, 0] h) (fun W hW => cCopy_ok W (Rd.mono h1 (hW.at (i := 0) rfl)) (by exact fin1_wApp_ok)) (fun v120 m120 hv120 => ?_)
              obtain ⟨s120_0, rfl, f120_0⟩ := hv120
              obtain ⟨q120_0_A2, q120_0_c2, q120_0_n2, rfl, q120_0_S, q120_0_0, q120_0_1, q120_0_2⟩ := openO_Commit (x0 := d1.1) (x1 := d1.2.1) (x2 := d1.2.2) f120_0
              simp only [inK] at q120_0_0
              simp only [inK] at q120_0_1
              have q120_0_r2 := q120_0_2.rm
              refine VD.inv _ (fun _ h => h.parts (i := 220) rfl q120_0_S [221]) ?_
              refine VD.bsl (cs := [Value.int .i64 (d1.1), Value.int .i64 (d1.2.1), Value.slice q120_0_A2 (d1.2.2.length) (q120_0_c2)]) 223 rfl rfl rfl tsl25 tz42 rfl rfl (fun _ h => Inv.sbK [219, 216, 218, 200, 105, 102, 0] h) (fun g122 => ?_)
              refine VD.appO (e := TCommit) 217 221 223 rfl rfl rfl rfl tsl25 tz42 rfl rfl rfl rfl q115_2 (show Ow TCommit _ _ d1 from (mkO_Commit d1.1 d1.2.1 d1.2.2 (Seps.one (mle_refl _)) (by simp only [inK]; (exact fin1_wApp_ok)) (by simp only [inK]; (exact fin1_wApp_ok)) (OwnL.ow (Ow.ownl q120_0_2 rfl mnil) rfl))) Try.underlying25 (cellsAt_one rfl rfl) (by simp only [maxLen]; (exact fin1_wApp_ok)) (by exact fin1_wApp_ok) (by decide) (fun _ _ h => Inv.sbK [219, 216, 218, 200, 105, 102, 0] h) (fun v124 m124 ho124 => ?_)
              obtain ⟨A124, c124, rfl, l124, k124⟩ := ho124.slice
              simp only [maxLen] at k124
              refine VD.nil rfl ?_ rfl
              refine VO.y rfl (.nilp rfl) ?_
              refine VO.y rfl (.fa rfl tst58 rfl) ?_
              refine VO.store (k := 1) (c' := [Value.pointer (some ⟨gd_, 0, none⟩), Value.bool ((decide (¬ wWrong D_ br_ = 0)) || decide (¬ ((dWrite D_ 0 ((fAppend [] ((cEncode d1).1)).1)).2) = 0)), Value.slice A124 ((l_ ++ [d1]).length) (c124), Value.slice q115_A3 (es_.length) (q115_c3)]) 219 rfl rfl (.inr ⟨tk25, rfl⟩) rfl rfl rfl rfl rfl ?_
              refine VO.clsP 225 [219, 216, 217, 218] rfl (fun hg125 => (mkP_walWal (gd_, ((dWrite D_ 0 ((fAppend [] ((cEncode d1).1)).1)).1)) ((decide (¬ wWrong D_ br_ = 0)) || decide (¬ ((dWrite D_ 0 ((fAppend [] ((cEncode d1).1)).1)).2) = 0)) (l_ ++ [d1]) es_ hg125 q115_0 ho124 (OwnL.ow (Ow.ownl q115_3 rfl mnil) rfl))) (fun mc125 ho125 => ?_)
              refine VO.k14 0 1 3 4 5 6 7 8 9 13 21 31 38 49 ?_
              refine outN ?_
              refine VC.seq ?_
              obtain ⟨q126_E, q126_A2, q126_c2, q126_A3, q126_c3, q126_n0, q126_n2, q126_n3, _, q126_S, q126_0, q126_2, q126_3⟩ := openP_walWal (x0 := (gd_, ((dWrite D_ 0 ((fAppend [] ((cEncode d1).1)).1)).1))) (x1 := (decide (¬ wWrong D_ br_ = 0)) || decide (¬ ((dWrite D_ 0 ((fAppend [] ((cEncode d1).1)).1)).2) = 0)) (x2 := l_ ++ [d1]) (x3 := es_) ho125
              dsimp only at q126_0
              have q126_r2 := q126_2.rm
              have q126_r3 := q126_3.rm
              refine VC.inv _ (fun _ h => h.parts (i := 225) rfl q126_S [230, 227, 228, 229]) ?_
              refine VC.regD [(230, mone g0 (.cells [Value.pointer (some ⟨gd_, 0, none⟩), Value.bool ((decide (¬ wWrong D_ br_ = 0)) || decide (¬ ((dWrite D_ 0 ((fAppend [] ((cEncode d1).1)).1)).2) = 0)), Value.slice q126_A2 ((l_ ++ [d1]).length) (q126_c2), Value.slice q126_A3 (es_.length) (q126_c3)].toArray q126_E (0, 0))), (227, q126_n0), (228, q126_n2), (223, mone g122 (.cells [Value.int .i64 (d1.1), Value.int .i64 (d1.2.1), Value.slice q120_0_A2 (d1.2.2.length) (q120_0_c2)].toArray 42 (0, 0))), (200, m100), (105, m5), (102, mone g1 (.cells [Value.int .i64 (d1.1), Value.int .i64 (d1.2.1), Value.slice p1_A2 (d1.2.2.length) (p1_c2)].toArray 42 (0, 0))), (0, mout (wm W) (m0))] 15 [(0, true), (1, true), (2, true), (3, true), (4, true), (5, true), (6, true), (7, true), (8, true), (10, true), (11, true), (9, false), (12, true), (13, false), (14, false)] follows (by kernel_rfl) (fun _ h => h.sub [230, 227, 228, 223, 200, 105, 102, 0]) ?_
              refine VD.y rfl rfl (.inl rfl) (.mv rfl) ?_
              refine VD.y rfl rfl (.inl rfl) (.mv rfl) ?_
              refine VD.y rfl rfl (.inl rfl) (.nilp rfl) ?_
              refine VD.y rfl rfl (.inl rfl) (.fa rfl tst58 rfl) ?_
              refine VD.y rfl rfl (.inl rfl) (.ld1 230 rfl tk56 rfl (cellsAt_one rfl rfl)) ?_
              refine VD.y rfl rfl (.inl rfl) (.mv rfl) ?_
              refine VD.y rfl rfl (.inl rfl) (.nilp rfl) ?_
              refine VD.y rfl rfl (.inl rfl) (.fa rfl tst58 rfl) ?_
              refine VD.y rfl rfl (.inl rfl) (.ld1 230 rfl tk56 rfl (cellsAt_one rfl rfl)) ?_
              refine VD.y rfl rfl (.inl rfl) (.mv rfl) ?_
              refine VD.y rfl rfl (.inl rfl) (.lenS rfl tsl22) ?_
              refine VD.callN 231 rfl rfl (.inl rfl) fnOk41 rfl (fun _ h => Inv.sbK [230, 227, 228, 223, 200, 105, 102, 0] h) (fun W hW => wLength_ok W (OwnL.rd (Ow.ownl q126_3 rfl mnil) (hW.at (i := 229) rfl) (mle_nil _))) (fun v131 m131 hv131 => ?_)
              subst hv131
              refine VD.y rfl rfl (.inl rfl) (.add rfl rfl rfl ⟨by exact fin1_wApp_ok, by exact fin1_wApp_ok⟩) ?_
              refine VD.bsl (cs := [Value.int .i64 ((lenW es_) + ((((fAppend [] ((cEncode d1).1)).1).length : Nat) : Int))]) 233 rfl rfl rfl tsl56 tz3 rfl rfl (fun _ h => Inv.sbK [230, 227, 228, 223, 200, 105, 102, 0] h) (fun g132 => ?_)
              obtain ⟨mo134, cs134, hM134, hA134, hC134⟩ := (Ow.ownl q126_3 rfl mnil)
              refine VD.app 229 rfl rfl rfl rfl tsl56 tz3 rfl rfl hM134 hA134 (.row 233 _ _ _ 1 1 _ _ Try.underlying56 rfl (cellsAt_one rfl rfl)) (by simp [Value.oneCell']) (by simp only [maxLen]; (exact fin1_wApp_ok)) (by exact fin1_wApp_ok) (by decide) (fun _ _ h => Inv.sbK [230, 227, 228, 223, 200, 105, 102, 0] h) (fun v134 m134 hN134 => ?_)
              have ho134 : OwnL (.int .i64) m134 mnil v134 (es_ ++ [((lenW es_) + ((((fAppend [] ((cEncode d1).1)).1).length : Nat) : Int))]) := OwnL.one hC134 hN134 (show Rd (.int .i64) _ [_] _ from ⟨rfl, by simp only [inK]; (exact fin1_wApp_ok)⟩)
              obtain ⟨A134, c134, rfl, l134, k134⟩ := ho134.slice
              simp only [maxLen] at k134
              refine VD.nil rfl ?_ rfl
              refine VO.y rfl (.nilp rfl) ?_
              refine VO.y rfl (.fa rfl tst58 rfl) ?_
              refine VO.store (k := 1) (c' := [Value.pointer (some ⟨gd_, 0, none⟩), Value.bool ((decide (¬ wWrong D_ br_ = 0)) || decide (¬ ((dWrite D_ 0 ((fAppend [] ((cEncode d1).1)).1)).2) = 0)), Value.slice q126_A2 ((l_ ++ [d1]).length) (q126_c2), Value.slice A134 ((es_ ++ [((lenW es_) + ((((fAppend [] ((cEncode d1).1)).1).length : Nat) : Int))]).length) (c134)]) 230 rfl rfl (.inr ⟨tk56, rfl⟩) rfl rfl rfl rfl rfl ?_
              refine VO.clsP 235 [230, 227, 228, 229] rfl (fun hg135 => (mkP_walWal (gd_, ((dWrite D_ 0 ((fAppend [] ((cEncode d1).1)).1)).1)) ((decide (¬ wWrong D_ br_ = 0)) || decide (¬ ((dWrite D_ 0 ((fAppend [] ((cEncode d1).1)).1)).2) = 0)) (l_ ++ [d1]) (es_ ++ [((lenW es_) + ((((fAppend [] ((cEncode d1).1)).1).length : Nat) : Int))]) hg135 q126_0 q126_2 (OwnL.ow ho134 rfl))) (fun mc135 ho135 => ?_)
              refine VO.kp [235, 200, 105, 102, 0] [(235, mc135), (200, m100), (105, m5), (102, mone g1 (.cells [Value.int .i64 (d1.1), Value.int .i64 (d1.2.1), Value.slice p1_A2 (d1.2.2.length) (p1_c2)].toArray 42 (0, 0))), (0, mout (wm W) (m0))] ?_
              refine VO.k14 0 1 3 4 5 6 7 8 9 13 21 31 38 49 ?_
              refine outN ?_
              refine VC.rs ?_
              refine VO.as ?_
              refine VO.k14 0 1 3 4 5 6 7 8 9 13 21 31 38 49 ?_
              refine VC.ret ?_
              refine ⟨_, _, res_run (rs := [.tmp 4]) rfl (.tmp rfl .nil), fun W_ hI => out_of (l := [mc135]) hI [235] rfl rfl (mle_refl _) (fun hS_ => ?_)⟩
              dsimp only [packV]
              have hm0_ : (((gd_, (wApp D_ br_ l_ d1).1.1), (wApp D_ br_ l_ d1).1.2.1, (wApp D_ br_ l_ d1).1.2.2, endsC (wApp D_ br_ l_ d1).1.2.2) : DwalWal) = ((gd_, ((dWrite D_ 0 ((fAppend [] ((cEncode d1).1)).1)).1)), (decide (¬ wWrong D_ br_ = 0)) || decide (¬ ((dWrite D_ 0 ((fAppend [] ((cEncode d1).1)).1)).2) = 0), l_ ++ [d1], es_ ++ [((lenW es_) + ((((fAppend [] ((cEncode d1).1)).1).length : Nat) : Int))]) := by first | rfl | (exact fin0_wApp_ok)
              refine ⟨?_, ?_⟩
              rotate_left
              · rw [hm0_]; exact (Ow.up ho135 (hS_.1 _ (.head _)))
              all_goals (first | rfl | (exact fin0_wApp_ok))
end
section
set_option linter.unusedVariables false
set_option linter.unusedSimpArgs false
set_option maxRecDepth 4000
theorem wSync_ok (W : World) {es_ : List Int} {l_ : List DCommit} {br_ : Bool} {D_ : DdiskDisk} {gd_ : Nat} {m0 : Mem} (hm : mle (m0) (wm W)) {g0 : Nat} (h0 : Ow (.ptr TwalWal) m0 [.pointer (some ⟨g0, 0, none⟩)] (g0, ((gd_, D_), br_, l_, es_))) (e0 : okD D_) (e1 : wD D_ + 3000 ≤ 1000000000000) (e2 : okL l_) (e3 : es_ = endsC l_) : CallR Try.prog 24 [.pointer (some ⟨g0, 0, none⟩)] W (m0) (fun v m' => v = .int .i64 ((wSync D_ br_ l_).2) ∧ Ow (.ptr TwalWal) m' [.pointer (some ⟨g0, 0, none⟩)] (g0, ((gd_, (wSync D_ br_ l_).1.1), (wSync D_ br_ l_).1.2.1, (wSync D_ br_ l_).1.2.2, endsC (wSync D_ br_ l_).1.2.2))) := by
  have hll := okL_len e2; have hlf := okL_frames e2; have hel := endsC_len l_; rw [← e3] at hel; have hlr := lastOr_range e2; have hlw := lenW_ends l_; rw [← e3] at hlw
  refine CallR.ofB (n := 16) hm Try.func24 rfl rfl rfl ?_
  refine VC.rs ?_
  refine VO.as ?_
  refine VO.k2 0 2 ?_
  refine VC.seq ?_
  refine VC.rs ?_
  refine VO.mv ?_
  refine VO.call 1 rfl fnOk52 rfl rfl (fun W hW => wWrong_ok W (hW.at (i := 1) rfl) h0) (fun v1 m1 hv1 => ?_)
  try dsimp only at hv1
  obtain ⟨rfl, w1_0⟩ := hv1
  refine VO.as ?_
  refine VO.k3 0 2 3 ?_
  refine VC.rs ?_
  refine VO.mv ?_
  refine VO.y rfl (.neq rfl rfl) ?_
  refine VO.kp [1, 0] [(1, m1), (0, mout (wm W) (m0))] ?_
  refine VO.k4 0 2 3 7 ?_
  refine VC.cond rfl (fun hc2 => ?_) (fun hc2 => ?_)
  · -- T
    refine VC.rs ?_
    refine VO.mv ?_
    refine VO.as ?_
    refine VO.k4 0 2 3 7 ?_
    refine VC.ret ?_
    refine outR ?_
    refine ⟨_, _, res_run (rs := [.tmp 2]) rfl (.tmp rfl .nil), fun W_ hI => out_of (l := [m1]) hI [1] rfl rfl (mle_refl _) (fun hS_ => ?_)⟩
    dsimp only [packV]
    have hm0_ : (((gd_, (wSync D_ br_ l_).1.1), (wSync D_ br_ l_).1.2.1, (wSync D_ br_ l_).1.2.2, endsC (wSync D_ br_ l_).1.2.2) : DwalWal) = ((gd_, D_), decide (¬ wWrong D_ br_ = 0), l_, es_) := by first | rfl | (first | (rw [wsync_bad (by assumption)] <;> first | rfl | (simp [*]; done) | (have h6_ := wrong_six (by assumption); simp [h6_, *]; done) | (simp_all; done)) | (rw [wsync_eq (by assumption)] <;> first | rfl | (simp [*]; done) | (have h6_ := wrong_six (by assumption); simp [h6_, *]; done) | (simp_all; done)))
    refine ⟨?_, ?_⟩
    rotate_left
    · rw [hm0_]; exact (Ow.up w1_0 (hS_.1 _ (.head _)))
    all_goals (first | rfl | (first | (rw [wsync_bad (by assumption)] <;> first | rfl | (simp [*]; done) | (have h6_ := wrong_six (by assumption); simp [h6_, *]; done) | (simp_all; done)) | (rw [wsync_eq (by assumption)] <;> first | rfl | (simp [*]; done) | (have h6_ := wrong_six (by assumption); simp [h6_, *]; done) | (simp_all; done))))
  · -- F
    refine VC.skip ?_
    refine outN ?_
    refine VC.rs ?_
    refine VO.mv ?_
    refine VO.mv ?_
    refine VO.y rfl (.nilp rfl) ?_
    refine VO.y rfl (.fa rfl tst58 rfl) ?_
    obtain ⟨q3_E, q3_A2, q3_c2, q3_A3, q3_c3, q3_n0, q3_n2, q3_n3, _, q3_S, q3_0, q3_2, q3_3⟩ := openP_walWal (x0 := (gd_, D_)) (x1 := decide (¬ wWrong D_ br_ = 0)) (x2 := l_) (x3 := es_) w1_0
    dsimp only at q3_0
    have q3_r2 := q3_2.rm
    have q3_r3 := q3_3.rm
    refine VO.inv _ (fun _ h => h.parts (i := 1) rfl q3_S [107, 104, 105, 106]) ?_
    refine VO.y rfl (.ld1 107 rfl tk37 rfl (cellsAt_one rfl rfl)) ?_
    refine VO.call 104 rfl fnOk51 rfl rfl (fun W hW => dSync_ok W (hW.at (i := 104) rfl) q3_0 (by assumption) (by first | omega | (simp only [List.length_append, List.length_nil, List.length_cons, List.length_take, List.length_drop] at *; omega) | (have h_ := sync_rng D_; omega))) (fun v8 m8 hv8 => ?_)
    obtain ⟨rfl, w8_0⟩ := hv8
    have hfa9 := (sync_ok (show okD D_ by assumption))
    have hfa10 := (sync_w (show okD D_ by assumption))
    refine VO.clsP 112 [107, 104, 105, 106] rfl (fun hg12 => (mkP_walWal (gd_, (dSync D_).1) (decide (¬ wWrong D_ br_ = 0)) l_ es_ hg12 w8_0 q3_2 (OwnL.ow (Ow.ownl q3_3 rfl mnil) rfl))) (fun mc12 ho12 => ?_)
    refine VO.call 112 rfl fnOk56 rfl rfl (fun W hW => wTried_ok W (hW.at (i := 112) rfl) ho12 ((dSync D_).2) (by simp only [inK]; (first | omega | (simp only [List.length_append, List.length_nil, List.length_cons, List.length_take, List.length_drop] at *; omega) | (have h_ := sync_rng D_; omega)))) (fun v11 m11 hv11 => ?_)
    try dsimp only at hv11
    obtain ⟨rfl, w11_0⟩ := hv11
    refine VO.as ?_
    refine VO.k4 0 2 3 7 ?_
    refine VC.ret ?_
    refine ⟨_, _, res_run (rs := [.tmp 2]) rfl (.tmp rfl .nil), fun W_ hI => out_of (l := [m11]) hI [112] rfl rfl (mle_refl _) (fun hS_ => ?_)⟩
    dsimp only [packV]
    have hm0_ : (((gd_, (wSync D_ br_ l_).1.1), (wSync D_ br_ l_).1.2.1, (wSync D_ br_ l_).1.2.2, endsC (wSync D_ br_ l_).1.2.2) : DwalWal) = ((gd_, ((dSync D_).1)), (decide (¬ wWrong D_ br_ = 0)) || decide (¬ ((dSync D_).2) = 0), l_, es_) := by first | rfl | (first | (rw [wsync_bad (by assumption)] <;> first | rfl | (simp [*]; done) | (have h6_ := wrong_six (by assumption); simp [h6_, *]; done) | (simp_all; done)) | (rw [wsync_eq (by assumption)] <;> first | rfl | (simp [*]; done) | (have h6_ := wrong_six (by assumption); simp [h6_, *]; done) | (simp_all; done)))
    refine ⟨?_, ?_⟩
    rotate_left
    · rw [hm0_]; exact (Ow.up w11_0 (hS_.1 _ (.head _)))
    all_goals (first | rfl | (first | (rw [wsync_bad (by assumption)] <;> first | rfl | (simp [*]; done) | (have h6_ := wrong_six (by assumption); simp [h6_, *]; done) | (simp_all; done)) | (rw [wsync_eq (by assumption)] <;> first | rfl | (simp [*]; done) | (have h6_ := wrong_six (by assumption); simp [h6_, *]; done) | (simp_all; done))))
theorem fin0_wOpenY_ok {P : Prop} (h : P := by first | (rw [open_bad (by assumption)] <;> first | rfl | (simp [*]; done) | (have h6_ := wrong_six (by assumption); simp [h6_, *]; done) | (simp_all; done)) | (rw [open_whole (by assumption) (by assumption)] <;> first | rfl | (simp [*]; done) | (have h6_ := wrong_six (by assumption); simp [h6_, *]; done) | (simp_all; done)) | (rw [open_cutbad (by assumption) (by assumption) (by assumption)] <;> first | rfl | (simp [*]; done) | (have h6_ := wrong_six (by assumption); simp [h6_, *]; done) | (simp_all; done)) | (rw [open_sync (by assumption) (by assumption) (by assumption)] <;> first | rfl | (simp [*]; done) | (have h6_ := wrong_six (by assumption); simp [h6_, *]; done) | (simp_all; done))) : P := h
theorem wOpenY_ok (W : World) {m0 : Mem} (hm : mle (m0) (wm W)) {g0 : Nat} {d0 : DdiskDisk} (h0 : Ow (.ptr TdiskDisk) m0 [.pointer (some ⟨g0, 0, none⟩)] (g0, d0)) (e0 : okD d0) (e1 : wD d0 + 3000 ≤ 1000000000000) (e2 : (wOpen d0).2 = 0) : CallR Try.prog 15 [.pointer (some ⟨g0, 0, none⟩)] W (m0) (fun v m' => ∃ (s0 : Nat), v = .tuple #[.pointer (some ⟨s0, 0, none⟩), .int .i64 (0)] ∧ Ow (.ptr TwalWal) m' [.pointer (some ⟨s0, 0, none⟩)] (s0, ((g0, (wOpen d0).1), false, (wLog d0).1, endsC (wLog d0).1))) := by
  refine CallR.ofB (n := 46) hm Try.func15 rfl rfl rfl ?_
  refine VC.rs ?_
  refine VO.as ?_
  refine VO.as ?_
  refine VO.k3 0 2 3 ?_
  refine VC.rs ?_
  refine VO.mv ?_
  refine VO.call 1 rfl fnOk36 rfl rfl (fun W hW => dRead_ok W (hW.at (i := 1) rfl) h0 0 bdk (by assumption) bd) (fun v1 m1 hv1 => ?_)
  obtain ⟨s1_0, p1_0, p1_1, rfl, hS1, f1_0, w1_0⟩ := hv1
  refine VO.inv _ (fun _ h => h.parts (i := 1) rfl hS1 [102, 103]) ?_
  have hfa4 := (read_size d0 0)
  obtain ⟨A1_0, c1_0, eq1_0, l1_0, k1_0⟩ := f1_0.slice
  subst eq1_0
  simp only [maxLen] at k1_0
  refine VO.mv ?_
  refine VO.y rfl (.ext rfl rfl) ?_
  refine VO.y rfl (.ext rfl rfl) ?_
  refine VO.as ?_
  refine VO.as ?_
  refine VO.k5 0 2 3 4 5 ?_
  refine VC.seq ?_
  refine VC.rs ?_
  refine VO.mv ?_
  refine VO.y rfl (.neq rfl rfl) ?_
  refine VO.kp [102, 103, 0] [(102, p1_0), (103, p1_1), (0, mout (wm W) (m0))] ?_
  refine VO.k6 0 2 3 4 5 17 ?_
  refine VC.cond rfl (fun hc5 => ?_) (fun hc5 => ?_)
  · -- T
    rw [open_bad hc5] at e2; exact absurd e2 hc5
  · -- F
    refine VC.skip ?_
    refine outN ?_
    refine VC.rs ?_
    refine VO.mv ?_
    refine VO.callN 106 rfl fnOk40 rfl (fun W hW => wScanE_ok W (OwnL.rd (Ow.ownl f1_0 rfl mnil) (hW.at (i := 102) rfl) (mle_nil _)) bd) (fun v6 m6 hv6 => ?_)
    obtain ⟨s6_0, s6_1, p6_0, p6_1, rfl, hS6, f6_0, f6_1⟩ := hv6
    refine VO.inv _ (fun _ h => h.parts (i := 106) rfl hS6 [107, 108]) ?_
    have hfa9 := log_bounds ((dRead d0 0).1)
    obtain ⟨A6_0, c6_0, eq6_0, l6_0, k6_0⟩ := f6_0.slice
    subst eq6_0
    simp only [maxLen] at k6_0
    obtain ⟨A6_1, c6_1, eq6_1, l6_1, k6_1⟩ := f6_1.slice
    subst eq6_1
    simp only [maxLen] at k6_1
    refine VO.mv ?_
    refine VO.y rfl (.ext rfl rfl) ?_
    refine VO.y rfl (.ext rfl rfl) ?_
    refine VO.as ?_
    refine VO.as ?_
    refine VO.k8 0 2 3 4 5 6 7 17 ?_
    refine VC.seq ?_
    refine VC.rs ?_
    refine VO.mv ?_
    refine VO.callN 110 rfl fnOk41 rfl (fun W hW => wLength_ok W (OwnL.rd (Ow.ownl f6_1 rfl mnil) (hW.at (i := 108) rfl) (mle_nil _))) (fun v10 m10 hv10 => ?_)
    subst hv10
    refine VO.as ?_
    refine VO.k9 0 2 3 4 5 6 7 8 17 ?_
    refine VC.rs ?_
    refine VO.mv ?_
    refine VO.mv ?_
    refine VO.y rfl (.lenS rfl tsl22) ?_
    refine VO.y rfl (.lss rfl rfl) ?_
    refine VO.kp [107, 108, 102, 103, 0] [(107, p6_0), (108, p6_1), (102, p1_0), (103, p1_1), (0, mout (wm W) (m0))] ?_
    refine VO.k10 0 2 3 4 5 6 7 8 17 29 ?_
    refine VC.cond rfl (fun hc11 => ?_) (fun hc11 => ?_)
    · -- FT
      refine VC.seq ?_
      refine VC.rs ?_
      refine VO.mv ?_
      refine VO.mv ?_
      refine VO.call 103 rfl fnOk50 rfl rfl (fun W hW => dCut_ok W (hW.at (i := 103) rfl) w1_0 0 bdk (lenW (endsC (logF ((dRead d0 0).1)).1)) bdk (by assumption) bd) (fun v12 m12 hv12 => ?_)
      obtain ⟨rfl, w12_0⟩ := hv12
      have hfa13 := (cut_ok (f := 0) (n := (lenW (endsC (logF ((dRead d0 0).1)).1))) (show okD d0 by assumption))
      have hfa14 := (cut_w (f := 0) (n := (lenW (endsC (logF ((dRead d0 0).1)).1))) (show okD d0 by assumption))
      refine VO.as ?_
      refine VO.k11 0 2 3 4 5 6 7 8 9 17 29 ?_
      refine VC.rs ?_
      refine VO.mv ?_
      refine VO.y rfl (.neq rfl rfl) ?_
      refine VO.k12 0 2 3 4 5 6 7 8 9 17 29 34 ?_
      refine VC.cond rfl (fun hc15 => ?_) (fun hc15 => ?_)
      · -- FTT
        rw [open_cutbad (by assumption) (by assumption) hc15] at e2; exact absurd e2 hc15
      · -- FTF
        refine VC.skip ?_
        refine outN ?_
        refine VC.rs ?_
        refine VO.mv ?_
        refine VO.call 103 rfl fnOk51 rfl rfl (fun W hW => dSync_ok W (hW.at (i := 103) rfl) w12_0 (by assumption) bd) (fun v16 m16 hv16 => ?_)
        obtain ⟨rfl, w16_0⟩ := hv16
        have hfa17 := (sync_ok (show okD ((dCut d0 0 (lenW (endsC (logF ((dRead d0 0).1)).1))).1) by assumption))
        have hfa18 := (sync_w (show okD ((dCut d0 0 (lenW (endsC (logF ((dRead d0 0).1)).1))).1) by assumption))
        refine VO.as ?_
        refine VO.kp [103, 107, 108, 102, 0] [(103, m16), (107, p6_0), (108, p6_1), (102, p1_0), (0, mout (wm W) (m0))] ?_
        refine VO.k13 0 2 3 4 5 6 7 8 9 10 17 29 34 ?_
        refine VC.rs ?_
        refine VO.mv ?_
        refine VO.y rfl (.neq rfl rfl) ?_
        refine VO.k14 0 2 3 4 5 6 7 8 9 10 17 29 34 39 ?_
        refine VC.cond rfl (fun hc19 => ?_) (fun hc19 => ?_)
        · -- FTFT
          rw [open_sync (by assumption) (by assumption) (by assumption)] at e2; exact absurd e2 hc19
        · -- FTFF
          refine VC.skip ?_
          refine outN ?_
          refine VC.rs ?_
          refine VO.mv ?_
          refine VO.mv ?_
          refine VO.mv ?_
          refine VO.y rfl (.bst (cs := [Value.pointer (some ⟨g0, 0, none⟩), Value.bool false, Value.slice A6_0 (((logF ((dRead d0 0).1)).1).length) (c6_0), Value.slice A6_1 ((endsC (logF ((dRead d0 0).1)).1).length) (c6_1)]) rfl tst58 tz58 rfl) ?_
          refine VO.box (cs := [Value.pointer (some ⟨g0, 0, none⟩), Value.bool false, Value.slice A6_0 (((logF ((dRead d0 0).1)).1).length) (c6_0), Value.slice A6_1 ((endsC (logF ((dRead d0 0).1)).1).length) (c6_1)]) 121 rfl rfl rfl (fun g20 => ?_)
          refine VO.as ?_
          refine VO.as ?_
          refine VO.k14 0 2 3 4 5 6 7 8 9 10 17 29 34 39 ?_
          refine VC.ret ?_
          refine ⟨_, _, res_run (rs := [.tmp 2, .tmp 3]) rfl (.tmp rfl (.tmp rfl .nil)), fun W_ hI => out_of (l := [mone g20 (.cells [Value.pointer (some ⟨g0, 0, none⟩), Value.bool false, Value.slice A6_0 (((logF ((dRead d0 0).1)).1).length) (c6_0), Value.slice A6_1 ((endsC (logF ((dRead d0 0).1)).1).length) (c6_1)].toArray 58 (0, 0)), m16, p6_0, p6_1]) hI [121, 103, 107, 108] rfl rfl (mle_refl _) (fun hS_ => ?_)⟩
          dsimp only [packV]
          have he0 : (((g0, (wOpen d0).1), false, (wLog d0).1, endsC (wLog d0).1) : DwalWal) = ((g0, (dSync ((dCut d0 0 (lenW (endsC (logF ((dRead d0 0).1)).1))).1)).1), false, (logF ((dRead d0 0).1)).1, endsC (logF ((dRead d0 0).1)).1) := by first | rfl | (exact fin0_wOpenY_ok)
          refine ⟨g20, ?_, ?_⟩
          rotate_left
          · rw [he0]; exact (mkP_walWal (g0, (dSync ((dCut d0 0 (lenW (endsC (logF ((dRead d0 0).1)).1))).1)).1) false ((logF ((dRead d0 0).1)).1) (endsC (logF ((dRead d0 0).1)).1) hS_ w16_0 f6_0 (OwnL.ow (Ow.ownl f6_1 rfl mnil) rfl))
          all_goals (first | rfl | (exact fin0_wOpenY_ok))
    · -- FF
      refine VC.skip ?_
      refine outN ?_
      refine VC.rs ?_
      refine VO.mv ?_
      refine VO.mv ?_
      refine VO.mv ?_
      refine VO.y rfl (.bst (cs := [Value.pointer (some ⟨g0, 0, none⟩), Value.bool false, Value.slice A6_0 (((logF ((dRead d0 0).1)).1).length) (c6_0), Value.slice A6_1 ((endsC (logF ((dRead d0 0).1)).1).length) (c6_1)]) rfl tst58 tz58 rfl) ?_
      refine VO.box (cs := [Value.pointer (some ⟨g0, 0, none⟩), Value.bool false, Value.slice A6_0 (((logF ((dRead d0 0).1)).1).length) (c6_0), Value.slice A6_1 ((endsC (logF ((dRead d0 0).1)).1).length) (c6_1)]) 123 rfl rfl rfl (fun g22 => ?_)
      refine VO.as ?_
      refine VO.as ?_
      refine VO.k10 0 2 3 4 5 6 7 8 17 29 ?_
      refine VC.ret ?_
      refine ⟨_, _, res_run (rs := [.tmp 2, .tmp 3]) rfl (.tmp rfl (.tmp rfl .nil)), fun W_ hI => out_of (l := [mone g22 (.cells [Value.pointer (some ⟨g0, 0, none⟩), Value.bool false, Value.slice A6_0 (((logF ((dRead d0 0).1)).1).length) (c6_0), Value.slice A6_1 ((endsC (logF ((dRead d0 0).1)).1).length) (c6_1)].toArray 58 (0, 0)), p1_1, p6_0, p6_1]) hI [123, 103, 107, 108] rfl rfl (mle_refl _) (fun hS_ => ?_)⟩
      dsimp only [packV]
      have he0 : (((g0, (wOpen d0).1), false, (wLog d0).1, endsC (wLog d0).1) : DwalWal) = ((g0, d0), false, (logF ((dRead d0 0).1)).1, endsC (logF ((dRead d0 0).1)).1) := by first | rfl | (exact fin0_wOpenY_ok)
      refine ⟨g22, ?_, ?_⟩
      rotate_left
      · rw [he0]; exact (mkP_walWal (g0, d0) false ((logF ((dRead d0 0).1)).1) (endsC (logF ((dRead d0 0).1)).1) hS_ w1_0 f6_0 (OwnL.ow (Ow.ownl f6_1 rfl mnil) rfl))
      all_goals (first | rfl | (exact fin0_wOpenY_ok))
end
section
set_option linter.unusedVariables false
abbrev WAct := Dlaw12Act
def smallW (l : List WAct) : Prop := (∀ a ∈ l, a.2.2.2.2.2.length ≤ 60) ∧ l.length ≤ 60
instance (l : List WAct) : Decidable (smallW l) := by unfold smallW; infer_instance
def wBegins (l f : List DCommit) : Prop := f.length ≤ l.length ∧ l.take f.length = f
instance (l f : List DCommit) : Decidable (wBegins l f) := by unfold wBegins; infer_instance
theorem begins_of {l f : List DCommit} (h : f <+: l) : wBegins l f := ⟨h.length_le, (prefix_take h).symm⟩
structure HdD (d : DDisk) (B : Bytes) : Prop where
  on : Onn d
  cur : getF (curD d) 0 = B
section
variable {d : DDisk} {B b : Bytes} {n : Int} {l all sure : List DCommit} {c : DCommit} {br : Bool} {k t : Int}
theorem hd_cut (h : HdD d B) (hn : 0 ≤ n) (hl : n ≤ B.length) : (dCut d 0 n).2 = 0 ∧ HdD (dCut d 0 n).1 (B.take n.toNat) := by
  obtain ⟨h1, h2, h3, _⟩ := on_cut (f := 0) (n := n) h.on (by decide) hn (by rw [h.cur]; exact hl)
  exact ⟨h1, h2, by rw [h3, get_set (by decide) (by decide), if_pos rfl, h.cur]⟩
theorem hd_sync (h : HdD d B) : (dSync d).2 = 0 ∧ HdD (dSync d).1 B ∧ dDurable (dSync d).1 0 = B := by
  obtain ⟨h1, h2, h3, h4⟩ := on_sync h.on
  refine ⟨h1, ⟨h2, by rw [cur_none h4, h3, h.cur]⟩, by rw [on_durable h2 (by decide), h3, h.cur]⟩
theorem hd_read (h : HdD d B) : dRead d 0 = (B, 0) := by rw [on_read h.on (by decide), h.cur]
theorem hd_held (h : HdD d B) : heldB d.2.2.2.2.2.1 d.2.2.2.2.2.2 0 = B := by rw [cur_held h.on.ok (by decide), h.cur]
theorem hd_torn (h : HdD d B) (hn : 0 ≤ n) (hl : n ≤ B.length) : (tornD d 0 n).2 = 0 ∧ HdD (tornD d 0 n).1 (B.take n.toNat) := by
  unfold tornD; rw [hd_held h]
  split
  · rename_i e; exact ⟨rfl, by rw [List.take_of_length_le (by omega)]; exact h⟩
  · obtain ⟨h1, h2⟩ := hd_cut h hn hl
    rw [if_neg (not_not_intro h1)]
    exact ⟨(hd_sync h2).1, (hd_sync h2).2.1⟩
theorem hd_log (h : HdD d B) : wLog d = logF B := by unfold wLog; rw [hd_read h]
theorem hd_open (h : HdD d B) : (wOpen d).2 = 0 ∧ HdD (wOpen d).1 (cFrames (logF B).1) ∧ wLog d = logF B := by
  obtain ⟨h1, h2, h3, _⟩ := log_spec B
  have hb := log_bounds B
  have e : B.take (logF B).2.toNat = cFrames (logF B).1 := by
    obtain ⟨s, hs⟩ := h3
    rw [h2, Int.toNat_natCast]
    conv => lhs; arg 2; rw [← hs]
    exact List.take_left
  have ht := hd_torn h hb.1 hb.2.1
  unfold wOpen; rw [if_neg (not_not_intro (onn_right h.on)), hd_log h]
  rw [e] at ht
  exact ⟨ht.1, ht.2, rfl⟩
theorem hd_open_whole (h : HdD d (cFrames l)) (hl : okL l) : (wOpen d).2 = 0 ∧ HdD (wOpen d).1 (cFrames l) ∧ (wLog d).1 = l := by
  have := hd_open h
  rw [log_whole hl] at this
  exact ⟨this.1, this.2.1, by rw [this.2.2]⟩
theorem from_whole {m : Int} (h : (l.length : Int) ≤ m) : wFrom l 1 m = l := by
  unfold wFrom; rw [if_neg (by decide)]; exact List.take_of_length_le (by simp; omega)
/-- all was appended, sure was synced; the disk is on -/
def Kl (d : DDisk) (all sure : List DCommit) : Prop := d.2.1 = false ∧ okL all ∧ sure <+: all ∧ ∃ A S, Pg d A S ∧ getF A 0 = cFrames all ∧ getF S 0 = cFrames sure
/-- the disk may be off -/
def Kp (d : DDisk) (all sure : List DCommit) : Prop := okL all ∧ sure <+: all ∧ ∃ A S, Pg d A S ∧ getF A 0 <+: cFrames all ∧ getF S 0 = cFrames sure
/-- it is started again -/
def Kt (d : DDisk) (all sure : List DCommit) : Prop := okL all ∧ sure <+: all ∧ ∃ B, HdD d B ∧ cFrames sure <+: B ∧ B <+: cFrames all
theorem kl_new : Kl newD [] [] := ⟨rfl, okL_nil, List.prefix_refl _, ([], [], [], []), ([], [], [], []), pg_none ⟨okD_new, rfl, rfl, rfl⟩ rfl, rfl, rfl⟩
theorem kl_fuse (h : Kl d all sure) (hn : 0 ≤ n) : (dFuse d n).2 = 0 ∧ Kl (dFuse d n).1 all sure := by
  obtain ⟨h1, h2, h3, A, S, h4, h5, h6⟩ := h
  obtain ⟨a, b, c⟩ := pg_fuse h4 h1 hn
  exact ⟨a, c, h2, h3, A, S, b, h5, h6⟩
theorem kl_kp (h : Kl d all sure) : Kp d all sure := by
  obtain ⟨h1, h2, h3, A, S, h4, h5, h6⟩ := h
  exact ⟨h2, h3, A, S, h4, by rw [h5]; exact List.prefix_refl _, h6⟩
theorem kl_on (h : Kl d all sure) : onD d := by
  obtain ⟨h1, h2, h3, A, S, h4, h5, h6⟩ := h
  exact ⟨h4.made, h1⟩
theorem kl_app (h : Kl d l sure) : ((wApp d false l c).2 = 0 ∧ Kl (wApp d false l c).1.1 (l ++ [c]) sure ∧ (wApp d false l c).1.2 = (false, l ++ [c])) ∨ ((wApp d false l c).2 = 6 ∧ Kp (wApp d false l c).1.1 (l ++ [c]) sure) ∨ ((¬ (wApp d false l c).2 = 0 ∧ ¬ (wApp d false l c).2 = 6) ∧ Kl (wApp d false l c).1.1 l sure ∧ (wApp d false l c).1.2 = (false, l)) := by
  have hw : ¬ ¬ wWrong d false = 0 := not_not_intro (wrong_ok (by decide) (kl_on h))
  by_cases h2 : cCheck c = 0
  · by_cases h3 : (cFollows (lastOr 0 l) l.length [c]).1 = 0
    · have hl := okL_snoc h.2.1 (not_not_intro h3)
      obtain ⟨o1, o2, o3, A, S, o4, o5, o6⟩ := h
      obtain ⟨p, p1, p2, p3⟩ := pg_write (f := 0) (b := cFrame c) o4 o1 (by decide)
      rw [app_go hw (not_not_intro h2) (not_not_intro h3)]
      have e : getF (setF A 0 (getF A 0 ++ p)) 0 = cFrames l ++ p := by rw [get_set (by decide) (by decide), if_pos rfl, o5]
      have hs : sure <+: l ++ [c] := o3.trans (List.prefix_append _ _)
      rcases p3 with ⟨q1, q2, q3⟩ | ⟨q1, q2⟩
      · left; rw [tried_good (not_not_intro q1)]
        subst q2
        exact ⟨rfl, ⟨q3, hl, hs, _, S, p2, by rw [e, cFrames_app, cFrames_one], o6⟩, rfl⟩
      · right; left; rw [tried_bad (by rw [q1]; decide)]
        refine ⟨q1, hl, hs, _, S, p2, ?_, o6⟩
        rw [e, cFrames_app, cFrames_one]; exact (List.prefix_append_right_inj _).2 p1
    · right; right; rw [app_bad3 hw (not_not_intro h2) h3]; exact ⟨⟨by show ¬ (15 : Int) = 0; decide, by show ¬ (15 : Int) = 6; decide⟩, h, rfl⟩
  · right; right; rw [app_bad2 hw h2]
    have := cCheck_range c
    exact ⟨⟨h2, by dsimp only; omega⟩, h, rfl⟩
theorem kl_sync (h : Kl d l sure) : ((wSync d false l).2 = 0 ∧ Kl (wSync d false l).1.1 l l ∧ (wSync d false l).1.2 = (false, l)) ∨ (¬ (wSync d false l).2 = 0 ∧ Kp (wSync d false l).1.1 l sure) := by
  have hw : ¬ ¬ wWrong d false = 0 := not_not_intro (wrong_ok (by decide) (kl_on h))
  obtain ⟨o1, o2, o3, A, S, o4, o5, o6⟩ := h
  rw [wsync_go hw]
  rcases pg_sync o4 o1 with ⟨q1, q2, q3, q4⟩ | ⟨q1, q2, q3⟩
  · left; rw [tried_good (not_not_intro q1)]
    exact ⟨rfl, ⟨q3, o2, List.prefix_refl _, A, A, q2, o5, o5⟩, rfl⟩
  · right; rw [tried_bad (by rw [q1]; decide)]
    exact ⟨by show ¬ _ = _; rw [q1]; decide, o2, o3, A, S, q2, by rw [o5]; exact List.prefix_refl _, o6⟩
theorem kp_made (h : Kp d all sure) : d.1 = true := by
  obtain ⟨h2, h3, A, S, h4, h5, h6⟩ := h
  exact h4.made
theorem kp_ok (h : Kp d all sure) : okD d := by
  obtain ⟨h2, h3, A, S, h4, h5, h6⟩ := h
  exact h4.ok
theorem kp_pull (h : Kp d all sure) (ho : d.1 = true ∧ d.2.1 = false) : (dPull d).2 = 0 ∧ Kp (dPull d).1 all sure ∧ (dPull d).1.2.1 = true := by
  obtain ⟨h2, h3, A, S, h4, h5, h6⟩ := h
  obtain ⟨a, b, c⟩ := pg_pull h4 ho.2
  exact ⟨a, ⟨h2, h3, A, S, b, h5, h6⟩, c⟩
theorem kp_off (h : Kp d all sure) (ho : ¬ (d.1 = true ∧ d.2.1 = false)) : d.2.1 = true := by
  cases hc : d.2.1 with
  | true => rfl
  | false => exact absurd ⟨kp_made h, hc⟩ ho
theorem kp_start (h : Kp d all sure) (ho : d.2.1 = true) (hk : 0 ≤ k) (ht : 0 ≤ t) : (dStart d k t).2 = 0 ∧ Kt (dStart d k t).1 all sure := by
  obtain ⟨h2, h3, A, S, h4, h5, h6⟩ := h
  obtain ⟨a, b⟩ := pg_start h4 ho hk ht
  refine ⟨a, h2, h3, _, ⟨b.on, by rw [pe_pf b]⟩, ?_, ?_⟩
  · have := b.lo 0 (by decide); rw [h6] at this; exact this
  · exact (b.hi 0 (by decide)).trans h5
theorem kt_open (h : Kt d all sure) : (wOpen d).2 = 0 ∧ (wLog d).1 <+: all ∧ sure <+: (wLog d).1 ∧ (wOpen (wOpen d).1).2 = 0 ∧ (wLog (wOpen d).1).1 = (wLog d).1 := by
  obtain ⟨h1, h2, B, h3, h4, h5⟩ := h
  obtain ⟨o1, o2, o3⟩ := hd_open h3
  obtain ⟨f1, f2⟩ := log_front h1 h5
  rw [o3]
  have hw := hd_open_whole o2 (log_bounds B).2.2.2.1
  exact ⟨o1, f1, f2 _ h2 h4, hw.1, hw.2.2⟩
end
end
section
set_option linter.unusedVariables false
section
variable {B : Bytes} {l : List DCommit} {a ep nn : Int}
theorem okL_rooms (h : okL l) : ∀ c ∈ l, c.2.2.length ≤ 3518437208800 ∧ ∀ o ∈ c.2.2, o.2.1.length ≤ 140737488400000 := by
  intro c hc
  have h5 := (cCheck_zero (okL_all h c hc)).2.2.2.2
  exact ⟨by have := batchCheck_ok h5; omega, fun o ho => by have := (batchCheck_mem h5 ho).2.1; omega⟩
def fr1 : Bytes := [9, 1, 1, 1, 1, 0, 1, 97, 1, 49]
def fr2 : Bytes := [9, 1, 2, 1, 1, 0, 1, 97, 1, 49]
theorem frame1 : cFrame (ofC 1 1) = fr1 := by simp [cFrame, fEnc, cEnc, ofC, fr1, batchEnc, encOps, encOp, shared, venc_last]
theorem frame2 : cFrame (ofC 1 2) = fr2 := by simp [cFrame, fEnc, cEnc, ofC, fr2, batchEnc, encOps, encOp, shared, venc_last]
def lvD1 : DDisk := (true, false, false, 0, 1, ([], [], [], []), [(0, 0, fr1, 0)])
def lvD2 : DDisk := (true, false, false, 0, 2, ([], [], [], []), [(0, 0, fr1, 0), (0, 0, fr2, 0)])
theorem lv0 : wOpen newD = (newD, 0) := by decide +kernel
theorem lv0l : (wLog newD).1 = [] := by decide +kernel
theorem lv1 : wApp newD false [] (ofC 1 1) = ((lvD1, false, [ofC 1 1]), 0) := by
  rw [app_go (by decide) (by decide) (by decide), frame1]; decide +kernel
theorem lv3 : wApp lvD1 false [ofC 1 1] (ofC 1 3) = ((lvD1, false, [ofC 1 1]), 15) := by decide +kernel
theorem lv2 : wApp lvD1 false [ofC 1 1] (ofC 1 2) = ((lvD2, false, [ofC 1 1, ofC 1 2]), 0) := by
  rw [app_go (by decide) (by decide) (by decide), frame2]; decide +kernel
theorem lvw : lenW (endsC [ofC 1 1, ofC 1 2]) = 20 := by
  rw [lenW_ends]; simp [cFrames, frame1, frame2, fr1, fr2]
theorem lvp : (dPull lvD2).2 = 0 := by decide +kernel
theorem lvs : (dStart (dPull lvD2).1 1 4).2 = 0 := by decide +kernel
theorem lvo : (wOpen (dStart (dPull lvD2).1 1 4).1).2 = 0 := by decide +kernel
theorem lvl : (wLog (dStart (dPull lvD2).1 1 4).1).1 = [ofC 1 1] := by decide +kernel
theorem lvw1 : lenW (endsC [ofC 1 1]) = 10 := by rw [lenW_ends]; simp [cFrames, frame1, fr1]
theorem lvc2 : wCut lvD1 false [ofC 1 1] 2 = ((lvD1, false, [ofC 1 1]), 2) := by decide +kernel
theorem lvc0 : (wCut lvD1 false [ofC 1 1] 0).2 = 0 ∧ (wCut lvD1 false [ofC 1 1] 0).1.2.2 = [] := by decide +kernel
theorem lvs1 : logF [9, 1, 2, 1, 1, 0, 1, 97, 1, 49] = ([], 0) := by decide +kernel
theorem lvs2 : logF [9, 1, 1, 1, 1, 0, 1, 97, 1, 49, 3] = ([ofC 1 1], 10) := by decide +kernel
end
section
variable {d : DDisk} {l l' all sure : List DCommit} {c : DCommit} {br : Bool} {k t n : Int}
theorem kl_app0 (h : Kl d l sure) (hb : br = false) (hl : l' = l) (h0 : (wApp d br l' c).2 = 0) : Kl (wApp d br l' c).1.1 (l ++ [c]) sure ∧ (wApp d br l' c).1.2.1 = false ∧ (wApp d br l' c).1.2.2 = l ++ [c] := by
  subst hb hl
  rcases kl_app (c := c) h with ⟨_, b, e⟩ | ⟨a, _⟩ | ⟨⟨a, _⟩, _⟩
  · exact ⟨b, by rw [e], by rw [e]⟩
  · omega
  · exact absurd h0 a
theorem kl_app6 (h : Kl d l sure) (hb : br = false) (hl : l' = l) (h0 : (wApp d br l' c).2 = 6) : Kp (wApp d br l' c).1.1 (l ++ [c]) sure := by
  subst hb hl
  rcases kl_app (c := c) h with ⟨a, _⟩ | ⟨_, b⟩ | ⟨⟨_, a⟩, _⟩
  · omega
  · exact b
  · exact absurd h0 a
theorem kl_appN (h : Kl d l sure) (hb : br = false) (hl : l' = l) (h6 : ¬ (wApp d br l' c).2 = 6) (h0 : ¬ (wApp d br l' c).2 = 0) : Kl (wApp d br l' c).1.1 l sure ∧ (wApp d br l' c).1.2.1 = false ∧ (wApp d br l' c).1.2.2 = l := by
  subst hb hl
  rcases kl_app (c := c) h with ⟨a, _⟩ | ⟨a, _⟩ | ⟨_, b, e⟩
  · exact absurd a h0
  · exact absurd a h6
  · exact ⟨b, by rw [e], by rw [e]⟩
theorem kl_sync0 (h : Kl d l sure) (hb : br = false) (hl : l' = l) (h0 : ¬ ¬ (wSync d br l').2 = 0) : Kl (wSync d br l').1.1 l l ∧ (wSync d br l').1.2.1 = false ∧ (wSync d br l').1.2.2 = l := by
  subst hb hl
  rcases kl_sync h with ⟨_, b, e⟩ | ⟨a, _⟩
  · exact ⟨b, by rw [e], by rw [e]⟩
  · exact absurd a h0
theorem kl_syncN (h : Kl d l sure) (hb : br = false) (hl : l' = l) (h0 : ¬ (wSync d br l').2 = 0) : Kp (wSync d br l').1.1 l sure := by
  subst hb hl
  rcases kl_sync h with ⟨a, _⟩ | ⟨_, b⟩
  · exact absurd a h0
  · exact b
theorem kl_appSync (h : Kl d l sure) (hb : br = false) (hl : l' = l) (h6 : ¬ (wApp d br l' c).2 = 6) (h0 : ¬ (wApp d br l' c).2 = 0) :
    (¬ ¬ (wSync (wApp d br l' c).1.1 (wApp d br l' c).1.2.1 (wApp d br l' c).1.2.2).2 = 0 → Kl (wSync (wApp d br l' c).1.1 (wApp d br l' c).1.2.1 (wApp d br l' c).1.2.2).1.1 l l ∧ (wSync (wApp d br l' c).1.1 (wApp d br l' c).1.2.1 (wApp d br l' c).1.2.2).1.2.1 = false ∧ (wSync (wApp d br l' c).1.1 (wApp d br l' c).1.2.1 (wApp d br l' c).1.2.2).1.2.2 = l) ∧
    (¬ (wSync (wApp d br l' c).1.1 (wApp d br l' c).1.2.1 (wApp d br l' c).1.2.2).2 = 0 → Kp (wSync (wApp d br l' c).1.1 (wApp d br l' c).1.2.1 (wApp d br l' c).1.2.2).1.1 l sure) := by
  obtain ⟨a, b, e⟩ := kl_appN h hb hl h6 h0
  exact ⟨fun q => kl_sync0 a b e q, fun q => kl_syncN a b e q⟩
theorem all_rng (h : okL l) {i : Nat} {x : DCommit} (hx : l[i]? = some x) : 1 ≤ x.1 ∧ x.1 ≤ 1048576 := by
  have := cCheck_zero (okL_all h x (List.mem_of_getElem? hx)); omega
theorem kt_from (h : Kt d all sure) (hl : all.length ≤ 61) : wFrom (wLog d).1 1 61 = (wLog d).1 ∧ wBegins all (wFrom (wLog d).1 1 61) ∧ wBegins (wFrom (wLog d).1 1 61) sure ∧ wFrom (wLog (wOpen d).1).1 1 61 = wFrom (wLog d).1 1 61 := by
  obtain ⟨h1, h2, h3, h4, h5⟩ := kt_open h
  have e : wFrom (wLog d).1 1 61 = (wLog d).1 := from_whole (by have := h2.length_le; omega)
  rw [h5, e]
  exact ⟨rfl, begins_of h2, begins_of h3, rfl⟩
end
end
section
set_option linter.unusedVariables false
set_option linter.unusedSimpArgs false
set_option maxRecDepth 4000
theorem fnOk15 : fnOk Try.prog 15 = true := by kernel_rfl
theorem fnOk16 : fnOk Try.prog 16 = true := by kernel_rfl
theorem fnOk17 : fnOk Try.prog 17 = true := by kernel_rfl
theorem fnOk18 : fnOk Try.prog 18 = true := by kernel_rfl
theorem fnOk27 : fnOk Try.prog 27 = true := by kernel_rfl
theorem fnOk28 : fnOk Try.prog 28 = true := by kernel_rfl
theorem fnOk33 : fnOk Try.prog 33 = true := by kernel_rfl
theorem fnOk34 : fnOk Try.prog 34 = true := by kernel_rfl
theorem tsl46 : tsl Try.prog 46 = some (50, 6, 64) := by kernel_rfl
theorem tst50 : tst Try.prog 50 = some [(0, 1), (1, 1), (2, 1), (3, 3)] := by kernel_rfl
theorem put12_ok (W : World) (d0 : Int) (h0 : inK .i64 d0) (d1 : Int) (h1 : inK .i64 d1) : CallR Try.prog 18 [.int .i64 d0, .int .i64 d1] W (mnil) (fun v m' => ∃ (s0 : List Value), v = .agg s0.toArray ∧ Ow TCommit m' s0 (ofC d0 d1)) := by
  have h0' := h0; simp only [inK] at h0'
  have h1' := h1; simp only [inK] at h1'
  refine CallR.ofA (n := 10) Try.func18 rfl rfl rfl ?_
  refine VC.rs ?_
  refine VO.alloc 102 rfl tz42 (fun g1 => ?_)
  refine VO.k3 0 1 4 ?_
  refine VC.rs ?_
  refine VO.mv ?_
  refine VO.mv ?_
  refine VO.y rfl (.bst (cs := [Value.bool true, str ([97]), str ([49])]) rfl tst95 tz95 rfl) ?_
  refine VO.bsl (cs := [Value.bool true, str ([97]), str ([49])]) 104 rfl rfl tsl40 tz95 rfl rfl (fun g3 => ?_)
  refine VO.y rfl (.bst (cs := [Value.int .i64 (d0), Value.int .i64 (d1), Value.slice (some ⟨g3, 0, none⟩) (1) (1)]) rfl tst42 tz42 rfl) ?_
  refine VO.store (k := 3) (c' := [Value.int .i64 (d0), Value.int .i64 (d1), Value.slice (some ⟨g3, 0, none⟩) (1) (1)]) 102 rfl rfl (.inl tk42) rfl rfl rfl rfl rfl ?_
  refine VO.k3 0 1 4 ?_
  refine VC.ret ?_
  have ho5 : OwnL TOp (mone g3 (.cells [Value.bool true, str ([97]), str ([49])].toArray 95 (0, 0))) mnil (Value.slice (some ⟨g3, 0, none⟩) (1) (1)) [(true, [97], [49])] := OwnL.lit 1 (All2c.cons (c1 := [Value.bool true, str ([97]), str ([49])]) (mk_Op (m := _) true ([97]) ([49]) bdm bdm) All2c.nil) rfl rfl
  refine ⟨_, _, res_run (rs := [.cell 4 42]) rfl (.agg 102 rfl tk42 rfl ⟨_, _, _, mone_self _ _, Nat.le_of_ble_eq_true rfl, rfl⟩ .nil), fun W_ hI => out_of (l := [mone g3 (.cells [Value.bool true, str ([97]), str ([49])].toArray 95 (0, 0))]) hI [104] rfl rfl (mle_refl _) (fun hS_ => ?_)⟩
  dsimp only [packV]
  have he0 : (ofC d0 d1 : Ty.Den TCommit) = (d0, d1, [(true, [97], [49])]) := by first | rfl | (simp [*]; done)
  refine ⟨[Value.int .i64 (d0), Value.int .i64 (d1), Value.slice (some ⟨g3, 0, none⟩) (1) (1)], ?_, ?_⟩
  rotate_left
  · rw [he0]; exact (mkO_Commit d0 d1 ([(true, [97], [49])]) hS_ bdk bdk (OwnL.ow ho5 rfl))
  all_goals (first | rfl | (simp [*]; done))
theorem next12_ok (W : World) {v0 : List Value} {d0 : Dlaw12Act} (h0 : Rd Tlaw12Act (wm W) v0 d0) (d1 : Int) (h1 : inK .i64 d1) (d2 : Int) (h2 : inK .i64 d2) (e0 : -9000000000000000000 ≤ d1 ∧ d1 ≤ 9000000000000000000 ∧ -9000000000000000000 ≤ d2 ∧ d2 ≤ 9000000000000000000) : CallR Try.prog 23 [.agg v0.toArray, .int .i64 d1, .int .i64 d2] W (mnil) (fun v m' => v = .agg [.int .i64 (max 1 d1 + pickI d0.2.1 3), .int .i64 (d2 + 1), v0.getD 5 undef].toArray) := by
  obtain ⟨p0_A5, p0_c5, rfl, p0_0, p0_1, p0_2, p0_3, p0_4, p0_5⟩ := open_law12Act (x0 := d0.1) (x1 := d0.2.1) (x2 := d0.2.2.1) (x3 := d0.2.2.2.1) (x4 := d0.2.2.2.2.1) (x5 := d0.2.2.2.2.2) h0
  simp only [inK] at p0_0
  simp only [inK] at p0_1
  simp only [inK] at p0_2
  simp only [inK] at p0_3
  simp only [inK] at p0_4
  have p0_r5 := Rd.room p0_5
  have h1' := h1; simp only [inK] at h1'
  have h2' := h2; simp only [inK] at h2'
  refine CallR.ofA (n := 19) Try.func23 rfl rfl rfl ?_
  refine VC.rs ?_
  refine VO.box (cs := [Value.int .i64 (d0.1), Value.int .i64 (d0.2.1), Value.int .i64 (d0.2.2.1), Value.int .i64 (d0.2.2.2.1), Value.int .i64 (d0.2.2.2.2.1), Value.slice p0_A5 (d0.2.2.2.2.2.length) (p0_c5)]) 102 rfl rfl rfl (fun g1 => ?_)
  refine VO.alloc 104 rfl tz42 (fun g3 => ?_)
  refine VO.k5 0 1 2 3 6 ?_
  refine VC.seq ?_
  refine VC.regD _ 11 [(0, true), (1, true), (2, true), (3, true), (6, true), (7, true), (8, true), (9, true), (10, true), (4, false), (5, true)] follows (by kernel_rfl) (fun _ h => h.sub [104, 102, 0]) ?_
  refine VD.y rfl rfl (.inl rfl) (.mv rfl) ?_
  refine VD.y rfl rfl (.inl rfl) (.maxM rfl rfl) ?_
  refine VD.y rfl rfl (.inl rfl) (.fa rfl tst50 rfl) ?_
  refine VD.y rfl rfl (.inl rfl) (.ld1 102 rfl tk3 rfl (cellsAt_one rfl rfl)) ?_
  refine VD.y rfl rfl (.inl rfl) (.mv rfl) ?_
  refine VD.y rfl rfl (.inl rfl) (.add rfl rfl rfl ⟨bd, bd⟩) ?_
  refine VD.y rfl rfl (.inl rfl) (.fa rfl tst50 rfl) ?_
  refine VD.y rfl rfl (.inl rfl) (.fa rfl tst42 rfl) ?_
  refine VD.y rfl rfl (.inl rfl) (.ld1 102 rfl tk40 rfl (cellsAt_one rfl rfl)) ?_
  refine VD.callN 105 rfl rfl (.inl rfl) fnOk34 rfl (fun _ h => h.sub [104, 102, 0]) (fun W hW => pick_ok W d0.2.1 bdk 3 bdk bd) (fun v5 m5 hv5 => ?_)
  subst hv5
  have hfa6 := pickI_bounds d0.2.1 3 (by omega)
  refine VD.y rfl rfl (.inl rfl) (.add rfl rfl rfl ⟨bd, bd⟩) ?_
  refine VD.nil rfl ?_ rfl
  refine VO.y rfl (.bst (cs := [Value.int .i64 ((max 1 d1) + (pickI d0.2.1 3)), Value.int .i64 (d2 + 1), Value.slice p0_A5 (d0.2.2.2.2.2.length) (p0_c5)]) rfl tst42 tz42 rfl) ?_
  refine VO.store (k := 3) (c' := [Value.int .i64 ((max 1 d1) + (pickI d0.2.1 3)), Value.int .i64 (d2 + 1), Value.slice p0_A5 (d0.2.2.2.2.2.length) (p0_c5)]) 104 rfl rfl (.inl tk42) rfl rfl rfl rfl rfl ?_
  refine VO.k5 0 1 2 3 6 ?_
  refine outN ?_
  refine VC.ret ?_
  refine ⟨_, _, res_run (rs := [.cell 6 42]) rfl (.agg 104 rfl tk42 rfl ⟨_, _, _, mone_self _ _, Nat.le_of_ble_eq_true rfl, rfl⟩ .nil), fun W_ hI => out_of (l := []) hI [] rfl rfl (mle_refl _) (fun hS_ => ?_)⟩
  dsimp only [packV]
  all_goals (first | rfl | (simp [*]; done))
theorem small12_ok (W : World) {v0 : Value} {d0 : List Dlaw12Act} (h0 : Rd (.sl Tlaw12Act) (wm W) [v0] d0) : CallR Try.prog 21 [v0] W (mnil) (fun v m' => v = .bool (decide (smallW d0))) := by
  obtain ⟨A0, c0, rfl, l0, k0⟩ := h0.slice
  simp only [maxLen] at k0
  refine CallR.ofA (n := 21) Try.func21 rfl rfl rfl ?_
  refine VC.rs ?_
  refine VO.as ?_
  refine VO.k2 0 2 ?_
  refine VC.seq ?_
  refine VC.rs ?_
  refine VO.as ?_
  refine VO.k3 0 2 3 ?_
  refine VC.block ?_
  refine VC.loop (G := Nat) (fun k => [(3, Value.int .i64 (((k : Nat) : Int))), (0, Value.slice A0 (d0.length) (c0))]) (fun k => [(0, wm W)]) (fun k => (k ≤ d0.length) ∧ (∀ a ∈ d0.take k, a.2.2.2.2.2.length ≤ 60)) (fun k => d0.length - k) 0 (⟨by omega, by simp⟩) ⟨⟨rfl, rfl, trivial⟩, fun _ h => h.sub [0]⟩ ?_
  rintro k ⟨hk, ha⟩
  refine VC.seq ?_
  refine VC.rs ?_
  refine VO.mv ?_
  refine VO.mv ?_
  refine VO.y rfl (.lenS rfl tsl46) ?_
  refine VO.y rfl (.lss rfl rfl) ?_
  refine VO.kp [0] [(0, wm W)] ?_
  refine VO.k3 0 3 7 ?_
  refine VC.cond rfl (fun hc1 => ?_) (fun hc1 => ?_)
  · -- T
    refine VC.skip ?_
    refine outN ?_
    refine VC.seq ?_
    refine VC.block ?_
    refine VC.rs ?_
    refine VO.mv ?_
    refine VO.mv ?_
    obtain ⟨x2, hx2⟩ : ∃ z_, (d0)[k]? = some z_ := ⟨_, List.getElem?_eq_getElem bd⟩
    obtain ⟨gg2, oo2, ec2, ea2, hce2, hre2⟩ := h0.elem hx2
    cases ea2
    obtain ⟨q2_A5, q2_c5, rfl, q2_0, q2_1, q2_2, q2_3, q2_4, q2_5⟩ := open_law12Act (x0 := x2.1) (x1 := x2.2.1) (x2 := x2.2.2.1) (x3 := x2.2.2.2.1) (x4 := x2.2.2.2.2.1) (x5 := x2.2.2.2.2.2) hre2
    simp only [inK] at q2_0
    simp only [inK] at q2_1
    simp only [inK] at q2_2
    simp only [inK] at q2_3
    simp only [inK] at q2_4
    have q2_r5 := Rd.room q2_5
    refine VO.y rfl (.ixI k rfl rfl tsl46 rfl bd) ?_
    refine VO.y rfl (.fa rfl tst50 rfl) ?_
    refine VO.y rfl (.fa rfl tst42 rfl) ?_
    refine VO.y rfl (.ld1 0 rfl tk40 rfl (hce2.at1 (j := 5) rfl)) ?_
    refine VO.y rfl (.lenS rfl tsl40) ?_
    refine VO.y rfl (.gtr rfl rfl) ?_
    refine VO.k4 0 3 7 17 ?_
    refine VC.cond rfl (fun hc3 => ?_) (fun hc3 => ?_)
    · -- TT
      refine VC.rs ?_
      refine VO.as ?_
      refine VO.k5 0 2 3 7 17 ?_
      refine VC.ret ?_
      refine outBR ?_
      refine outR ?_
      refine outR ?_
      refine outBR ?_
      refine outR ?_
      refine ⟨_, _, res_run (rs := [.tmp 2]) rfl (.tmp rfl .nil), fun W_ hI => out_of (l := []) hI [] rfl rfl (mle_refl _) (fun hS_ => ?_)⟩
      dsimp only [packV]
      all_goals (first | rfl | (first | exact congrArg Value.bool (decide_eq_false (fun e => by have := e.1 _ (List.mem_of_getElem? ‹d0[k]? = some _›); omega)).symm | exact congrArg Value.bool (decide_eq_false (fun e => by have := e.2; omega)).symm | exact congrArg Value.bool (decide_eq_decide.2 (by have ha2 := ha; rw [List.take_of_length_le (by omega)] at ha2; exact ⟨fun h => ⟨ha2, by omega⟩, fun h => by have := h.2; omega⟩))))
    · -- TF
      refine VC.skip ?_
      refine outBN ?_
      refine outN ?_
      refine VC.reg ?_
      refine VO.mv ?_
      refine VO.y rfl (.add (c := ((k + 1 : Nat) : Int)) rfl rfl (by omega) ⟨bd, bd⟩) ?_
      refine VO.as ?_
      refine VO.k4 0 3 7 17 ?_
      exact outN ⟨k + 1, ⟨by omega, by exact all_next ha ‹d0[k]? = some _› (by omega)⟩, bd, ⟨⟨rfl, rfl, trivial⟩, fun _ h => Inv.sub h [0]⟩⟩
  · -- F
    refine VC.exit ?_
    refine outE ?_
    refine outE ?_
    refine outBB ?_
    refine outN ?_
    refine VC.rs ?_
    refine VO.mv ?_
    refine VO.y rfl (.lenS rfl tsl46) ?_
    refine VO.y rfl (.leq rfl rfl) ?_
    refine VO.as ?_
    refine VO.k4 0 2 3 7 ?_
    refine VC.ret ?_
    refine ⟨_, _, res_run (rs := [.tmp 2]) rfl (.tmp rfl .nil), fun W_ hI => out_of (l := []) hI [] rfl rfl (mle_refl _) (fun hS_ => ?_)⟩
    dsimp only [packV]
    all_goals (first | rfl | (first | exact congrArg Value.bool (decide_eq_false (fun e => by have := e.1 _ (List.mem_of_getElem? ‹d0[k]? = some _›); omega)).symm | exact congrArg Value.bool (decide_eq_false (fun e => by have := e.2; omega)).symm | exact congrArg Value.bool (decide_eq_decide.2 (by have ha2 := ha; rw [List.take_of_length_le (by omega)] at ha2; exact ⟨fun h => ⟨ha2, by omega⟩, fun h => by have := h.2; omega⟩))))
theorem begins12_ok (W : World) {v0 : Value} {d0 : List DCommit} (h0 : Rd (.sl TCommit) (wm W) [v0] d0) {v1 : Value} {d1 : List DCommit} (h1 : Rd (.sl TCommit) (wm W) [v1] d1) : CallR Try.prog 30 [v0, v1] W (mnil) (fun v m' => v = .bool (decide (wBegins d0 d1))) := by
  obtain ⟨A0, c0, rfl, l0, k0⟩ := h0.slice
  simp only [maxLen] at k0
  obtain ⟨A1, c1, rfl, l1, k1⟩ := h1.slice
  simp only [maxLen] at k1
  refine CallR.ofA (n := 18) Try.func30 rfl rfl rfl ?_
  refine VC.rs ?_
  refine VO.as ?_
  refine VO.k3 0 1 4 ?_
  refine VC.rs ?_
  refine VO.mv ?_
  refine VO.y rfl (.lenS rfl tsl25) ?_
  refine VO.mv ?_
  refine VO.y rfl (.lenS rfl tsl25) ?_
  refine VO.y rfl (.leq rfl rfl) ?_
  refine VO.mv ?_
  refine VO.dec (t := 10) rfl (fun hc1 => ?_) (fun hc1 => ?_)
  · -- T
    refine VO.gy rfl ⟨_, rfl, rfl⟩ (.mv rfl) ?_
    refine VO.gy rfl ⟨_, rfl, rfl⟩ (.mv rfl) ?_
    refine VO.gy rfl ⟨_, rfl, rfl⟩ (.lenS rfl tsl25) ?_
    have hs2 := h0.pre (j := d1.length) bd
    refine VO.gy rfl ⟨_, rfl, rfl⟩ (.slHI d1.length rfl rfl tsl25 rfl bd) ?_
    refine VO.gy rfl ⟨_, rfl, rfl⟩ (.mv rfl) ?_
    refine VO.gcallN 103 rfl ⟨_, rfl, rfl⟩ fnOk12 rfl (fun W hW => SameCommits_ok W (Rd.mono hs2 (hW.at (i := 0) rfl)) (Rd.mono h1 (hW.at (i := 0) rfl))) (fun v3 m3 hv3 => ?_)
    subst hv3
    refine VO.y rfl (.pT rfl rfl) ?_
    refine VO.as ?_
    refine VO.k3 0 1 4 ?_
    refine VC.ret ?_
    refine ⟨_, _, res_run (rs := [.tmp 4]) rfl (.tmp rfl .nil), fun W_ hI => out_of (l := []) hI [] rfl rfl (mle_refl _) (fun hS_ => ?_)⟩
    dsimp only [packV]
    all_goals (first | rfl | (first | exact congrArg Value.bool (decide_eq_false (fun h_ => by have := h_.1; omega)).symm | exact congrArg Value.bool (decide_eq_decide.2 (by exact ⟨fun h_ => ⟨by omega, h_⟩, fun h_ => h_.2⟩))))
  · -- F
    refine VO.gN ?_
    refine VO.gN ?_
    refine VO.gN ?_
    refine VO.gN ?_
    refine VO.gN ?_
    refine VO.gN ?_
    refine VO.y rfl (.pF rfl rfl) ?_
    refine VO.as ?_
    refine VO.k3 0 1 4 ?_
    refine VC.ret ?_
    refine ⟨_, _, res_run (rs := [.tmp 4]) rfl (.tmp rfl .nil), fun W_ hI => out_of (l := []) hI [] rfl rfl (mle_refl _) (fun hS_ => ?_)⟩
    dsimp only [packV]
    all_goals (first | rfl | (first | exact congrArg Value.bool (decide_eq_false (fun h_ => by have := h_.1; omega)).symm | exact congrArg Value.bool (decide_eq_decide.2 (by exact ⟨fun h_ => ⟨by omega, h_⟩, fun h_ => h_.2⟩))))
set_option maxHeartbeats 4000000 in
theorem lives12_ok (W : World) : CallR Try.prog 8 [] W (mnil) (fun v m' => v = .bool true) := by
  refine CallR.ofA (n := 70) Try.func8 rfl rfl rfl ?_
  refine VC.rs ?_
  refine VO.as ?_
  refine VO.k1 0 ?_
  refine VC.rs ?_
  refine VO.callN 101 rfl fnOk16 rfl (fun W hW => dNew_ok W ) (fun v1 m1 hv1 => ?_)
  obtain ⟨s1_0, rfl, f1_0⟩ := hv1
  have hfa2 := okD_new
  have hfa3 := (show wD newD = 0 from rfl)
  refine VO.as ?_
  refine VO.k2 0 1 ?_
  refine VC.rs ?_
  refine VO.mv ?_
  by_cases hsp4 : (wOpen newD).2 = 0
  · -- T
    refine VO.call 101 rfl fnOk15 rfl rfl (fun W hW => wOpenY_ok W (hW.at (i := 101) rfl) f1_0 (by assumption) (by first | (simp only [lv0, lv0l, lv1, lv2, lv3, lvw, lvw1, lvp, lvs, lvo, lvl, lvc2, lvc0.1, lvc0.2, lvs1, lvs2]; decide +kernel) | decide +kernel) (by assumption)) (fun v5 m5 hv5 => ?_)
    obtain ⟨s5_0, rfl, f5_0⟩ := hv5
    have hfa6 := (open_ok (show okD newD by assumption))
    have hfa7 := (open_w (show okD newD by assumption))
    have hfa8 := (log_bounds (dRead newD 0).1)
    have hfa9 := (okL_log newD)
    refine VO.mv ?_
    refine VO.y rfl (.ext rfl rfl) ?_
    refine VO.y rfl (.ext rfl rfl) ?_
    refine VO.as ?_
    refine VO.as ?_
    refine VO.kp [101, 0] [(101, m5), (0, wm W)] ?_
    refine VO.k4 0 1 2 3 ?_
    refine VC.seq ?_
    refine VC.rs ?_
    refine VO.mv ?_
    refine VO.y rfl (.neq rfl rfl) ?_
    refine VO.mv ?_
    refine VO.dec (t := 13) rfl (fun hc10 => ?_) (fun hc10 => ?_)
    · -- TT
      first | exact absurd rfl hc10 | exact absurd (by first | rfl | decide | (simp only [lv0, lv0l, lv1, lv2, lv3, lvw, lvw1, lvp, lvs, lvo, lvl, lvc2, lvc0.1, lvc0.2, lvs1, lvs2]; first | done | rfl | decide | omega)) hc10 | exact absurd hc10 (by first | decide | (simp only [lv0, lv0l, lv1, lv2, lv3, lvw, lvw1, lvp, lvs, lvo, lvl, lvc2, lvc0.1, lvc0.2, lvs1, lvs2]; first | done | rfl | decide | omega)) | (simp only [lv0, lv0l, lv1, lv2, lv3, lvw, lvw1, lvp, lvs, lvo, lvl, lvc2, lvc0.1, lvc0.2, lvs1, lvs2] at hc10; first | done | exact absurd hc10 (by decide) | exact absurd rfl hc10)
    · -- TF
      refine VO.gy rfl ⟨_, rfl, rfl⟩ (.mv rfl) ?_
      refine VO.gy rfl ⟨_, rfl, rfl⟩ (.pnil rfl rfl Try.underlying33 rfl) ?_
      refine VO.y rfl (.pF rfl rfl) ?_
      refine VO.mv ?_
      refine VO.gy rfl ⟨_, rfl, rfl⟩ (.mv rfl) ?_
      refine VO.gcallN 111 rfl ⟨_, rfl, rfl⟩ fnOk18 rfl (fun W hW => put12_ok W 1 bdk 1 bdk) (fun v11 m11 hv11 => ?_)
      obtain ⟨s11_0, rfl, f11_0⟩ := hv11
      obtain ⟨q11_0_A2, q11_0_c2, q11_0_n2, rfl, q11_0_S, q11_0_0, q11_0_1, q11_0_2⟩ := openO_Commit (x0 := (ofC 1 1).1) (x1 := (ofC 1 1).2.1) (x2 := (ofC 1 1).2.2) f11_0
      simp only [inK] at q11_0_0
      simp only [inK] at q11_0_1
      have q11_0_r2 := q11_0_2.rm
      refine VO.inv _ (fun _ h => h.parts (i := 111) rfl q11_0_S [112]) ?_
      refine VO.gcall 101 rfl ⟨_, rfl, rfl⟩ fnOk17 rfl rfl (fun W hW => wApp_ok W (hW.at (i := 101) rfl) f5_0 (show Rd TCommit _ _ (ofC 1 1) from (mk_Commit (m := mout (wm W) (m5)) ((ofC 1 1).1) ((ofC 1 1).2.1) ((ofC 1 1).2.2) bdk bdk (OwnL.rd (Ow.ownl q11_0_2 rfl mnil) (hW.out (i := 101) (j := 112) rfl rfl) (mle_nil _)))) (by assumption) (by first | (simp only [lv0, lv0l, lv1, lv2, lv3, lvw, lvw1, lvp, lvs, lvo, lvl, lvc2, lvc0.1, lvc0.2, lvs1, lvs2]; decide +kernel) | decide +kernel) (by assumption) (by first | assumption | rfl)) (fun v13 m13 hv13 => ?_)
      try dsimp only at hv13
      obtain ⟨rfl, w13_0⟩ := hv13
      have hfa14 := (app_ok (br := false) (l := ((wLog newD).1)) (c := (ofC 1 1)) (show okD ((wOpen newD).1) by assumption))
      have hfa15 := (app_w (br := false) (l := ((wLog newD).1)) (c := (ofC 1 1)) (show okD ((wOpen newD).1) by assumption))
      have hfa16 := (app_l (d := ((wOpen newD).1)) (br := false) (c := (ofC 1 1)) (show okL ((wLog newD).1) by assumption))
      refine VO.gy rfl ⟨_, rfl, rfl⟩ (.neq rfl rfl) ?_
      refine VO.y rfl (.pF rfl rfl) ?_
      refine VO.mv ?_
      refine VO.dec (t := 23) rfl (fun hc17 => ?_) (fun hc17 => ?_)
      · -- TFT
        first | exact absurd rfl hc17 | exact absurd (by first | rfl | decide | (simp only [lv0, lv0l, lv1, lv2, lv3, lvw, lvw1, lvp, lvs, lvo, lvl, lvc2, lvc0.1, lvc0.2, lvs1, lvs2]; first | done | rfl | decide | omega)) hc17 | exact absurd hc17 (by first | decide | (simp only [lv0, lv0l, lv1, lv2, lv3, lvw, lvw1, lvp, lvs, lvo, lvl, lvc2, lvc0.1, lvc0.2, lvs1, lvs2]; first | done | rfl | decide | omega)) | (simp only [lv0, lv0l, lv1, lv2, lv3, lvw, lvw1, lvp, lvs, lvo, lvl, lvc2, lvc0.1, lvc0.2, lvs1, lvs2] at hc17; first | done | exact absurd hc17 (by decide) | exact absurd rfl hc17)
      · -- TFF
        refine VO.gy rfl ⟨_, rfl, rfl⟩ (.mv rfl) ?_
        refine VO.gcallN 118 rfl ⟨_, rfl, rfl⟩ fnOk18 rfl (fun W hW => put12_ok W 1 bdk 3 bdk) (fun v18 m18 hv18 => ?_)
        obtain ⟨s18_0, rfl, f18_0⟩ := hv18
        obtain ⟨q18_0_A2, q18_0_c2, q18_0_n2, rfl, q18_0_S, q18_0_0, q18_0_1, q18_0_2⟩ := openO_Commit (x0 := (ofC 1 3).1) (x1 := (ofC 1 3).2.1) (x2 := (ofC 1 3).2.2) f18_0
        simp only [inK] at q18_0_0
        simp only [inK] at q18_0_1
        have q18_0_r2 := q18_0_2.rm
        refine VO.inv _ (fun _ h => h.parts (i := 118) rfl q18_0_S [119]) ?_
        refine VO.gcall 101 rfl ⟨_, rfl, rfl⟩ fnOk17 rfl rfl (fun W hW => wApp_ok W (hW.at (i := 101) rfl) w13_0 (show Rd TCommit _ _ (ofC 1 3) from (mk_Commit (m := mout (wm W) (m13)) ((ofC 1 3).1) ((ofC 1 3).2.1) ((ofC 1 3).2.2) bdk bdk (OwnL.rd (Ow.ownl q18_0_2 rfl mnil) (hW.out (i := 101) (j := 119) rfl rfl) (mle_nil _)))) (by assumption) (by first | (simp only [lv0, lv0l, lv1, lv2, lv3, lvw, lvw1, lvp, lvs, lvo, lvl, lvc2, lvc0.1, lvc0.2, lvs1, lvs2]; decide +kernel) | decide +kernel) (by assumption) (by first | assumption | rfl)) (fun v20 m20 hv20 => ?_)
        try dsimp only at hv20
        obtain ⟨rfl, w20_0⟩ := hv20
        have hfa21 := (app_ok (br := ((wApp ((wOpen newD).1) false ((wLog newD).1) (ofC 1 1)).1.2.1)) (l := ((wApp ((wOpen newD).1) false ((wLog newD).1) (ofC 1 1)).1.2.2)) (c := (ofC 1 3)) (show okD ((wApp ((wOpen newD).1) false ((wLog newD).1) (ofC 1 1)).1.1) by assumption))
        have hfa22 := (app_w (br := ((wApp ((wOpen newD).1) false ((wLog newD).1) (ofC 1 1)).1.2.1)) (l := ((wApp ((wOpen newD).1) false ((wLog newD).1) (ofC 1 1)).1.2.2)) (c := (ofC 1 3)) (show okD ((wApp ((wOpen newD).1) false ((wLog newD).1) (ofC 1 1)).1.1) by assumption))
        have hfa23 := (app_l (d := ((wApp ((wOpen newD).1) false ((wLog newD).1) (ofC 1 1)).1.1)) (br := ((wApp ((wOpen newD).1) false ((wLog newD).1) (ofC 1 1)).1.2.1)) (c := (ofC 1 3)) (show okL ((wApp ((wOpen newD).1) false ((wLog newD).1) (ofC 1 1)).1.2.2) by assumption))
        refine VO.gy rfl ⟨_, rfl, rfl⟩ (.neq rfl rfl) ?_
        refine VO.y rfl (.pF rfl rfl) ?_
        refine VO.mv ?_
        refine VO.dec (t := 29) rfl (fun hc24 => ?_) (fun hc24 => ?_)
        · -- TFFT
          first | exact absurd rfl hc24 | exact absurd (by first | rfl | decide | (simp only [lv0, lv0l, lv1, lv2, lv3, lvw, lvw1, lvp, lvs, lvo, lvl, lvc2, lvc0.1, lvc0.2, lvs1, lvs2]; first | done | rfl | decide | omega)) hc24 | exact absurd hc24 (by first | decide | (simp only [lv0, lv0l, lv1, lv2, lv3, lvw, lvw1, lvp, lvs, lvo, lvl, lvc2, lvc0.1, lvc0.2, lvs1, lvs2]; first | done | rfl | decide | omega)) | (simp only [lv0, lv0l, lv1, lv2, lv3, lvw, lvw1, lvp, lvs, lvo, lvl, lvc2, lvc0.1, lvc0.2, lvs1, lvs2] at hc24; first | done | exact absurd hc24 (by decide) | exact absurd rfl hc24)
        · -- TFFF
          refine VO.gy rfl ⟨_, rfl, rfl⟩ (.mv rfl) ?_
          refine VO.gcallN 125 rfl ⟨_, rfl, rfl⟩ fnOk18 rfl (fun W hW => put12_ok W 1 bdk 2 bdk) (fun v25 m25 hv25 => ?_)
          obtain ⟨s25_0, rfl, f25_0⟩ := hv25
          obtain ⟨q25_0_A2, q25_0_c2, q25_0_n2, rfl, q25_0_S, q25_0_0, q25_0_1, q25_0_2⟩ := openO_Commit (x0 := (ofC 1 2).1) (x1 := (ofC 1 2).2.1) (x2 := (ofC 1 2).2.2) f25_0
          simp only [inK] at q25_0_0
          simp only [inK] at q25_0_1
          have q25_0_r2 := q25_0_2.rm
          refine VO.inv _ (fun _ h => h.parts (i := 125) rfl q25_0_S [126]) ?_
          refine VO.gcall 101 rfl ⟨_, rfl, rfl⟩ fnOk17 rfl rfl (fun W hW => wApp_ok W (hW.at (i := 101) rfl) w20_0 (show Rd TCommit _ _ (ofC 1 2) from (mk_Commit (m := mout (wm W) (m20)) ((ofC 1 2).1) ((ofC 1 2).2.1) ((ofC 1 2).2.2) bdk bdk (OwnL.rd (Ow.ownl q25_0_2 rfl mnil) (hW.out (i := 101) (j := 126) rfl rfl) (mle_nil _)))) (by assumption) (by first | (simp only [lv0, lv0l, lv1, lv2, lv3, lvw, lvw1, lvp, lvs, lvo, lvl, lvc2, lvc0.1, lvc0.2, lvs1, lvs2]; decide +kernel) | decide +kernel) (by assumption) (by first | assumption | rfl)) (fun v27 m27 hv27 => ?_)
          try dsimp only at hv27
          obtain ⟨rfl, w27_0⟩ := hv27
          have hfa28 := (app_ok (br := ((wApp ((wApp ((wOpen newD).1) false ((wLog newD).1) (ofC 1 1)).1.1) ((wApp ((wOpen newD).1) false ((wLog newD).1) (ofC 1 1)).1.2.1) ((wApp ((wOpen newD).1) false ((wLog newD).1) (ofC 1 1)).1.2.2) (ofC 1 3)).1.2.1)) (l := ((wApp ((wApp ((wOpen newD).1) false ((wLog newD).1) (ofC 1 1)).1.1) ((wApp ((wOpen newD).1) false ((wLog newD).1) (ofC 1 1)).1.2.1) ((wApp ((wOpen newD).1) false ((wLog newD).1) (ofC 1 1)).1.2.2) (ofC 1 3)).1.2.2)) (c := (ofC 1 2)) (show okD ((wApp ((wApp ((wOpen newD).1) false ((wLog newD).1) (ofC 1 1)).1.1) ((wApp ((wOpen newD).1) false ((wLog newD).1) (ofC 1 1)).1.2.1) ((wApp ((wOpen newD).1) false ((wLog newD).1) (ofC 1 1)).1.2.2) (ofC 1 3)).1.1) by assumption))
          have hfa29 := (app_w (br := ((wApp ((wApp ((wOpen newD).1) false ((wLog newD).1) (ofC 1 1)).1.1) ((wApp ((wOpen newD).1) false ((wLog newD).1) (ofC 1 1)).1.2.1) ((wApp ((wOpen newD).1) false ((wLog newD).1) (ofC 1 1)).1.2.2) (ofC 1 3)).1.2.1)) (l := ((wApp ((wApp ((wOpen newD).1) false ((wLog newD).1) (ofC 1 1)).1.1) ((wApp ((wOpen newD).1) false ((wLog newD).1) (ofC 1 1)).1.2.1) ((wApp ((wOpen newD).1) false ((wLog newD).1) (ofC 1 1)).1.2.2) (ofC 1 3)).1.2.2)) (c := (ofC 1 2)) (show okD ((wApp ((wApp ((wOpen newD).1) false ((wLog newD).1) (ofC 1 1)).1.1) ((wApp ((wOpen newD).1) false ((wLog newD).1) (ofC 1 1)).1.2.1) ((wApp ((wOpen newD).1) false ((wLog newD).1) (ofC 1 1)).1.2.2) (ofC 1 3)).1.1) by assumption))
          have hfa30 := (app_l (d := ((wApp ((wApp ((wOpen newD).1) false ((wLog newD).1) (ofC 1 1)).1.1) ((wApp ((wOpen newD).1) false ((wLog newD).1) (ofC 1 1)).1.2.1) ((wApp ((wOpen newD).1) false ((wLog newD).1) (ofC 1 1)).1.2.2) (ofC 1 3)).1.1)) (br := ((wApp ((wApp ((wOpen newD).1) false ((wLog newD).1) (ofC 1 1)).1.1) ((wApp ((wOpen newD).1) false ((wLog newD).1) (ofC 1 1)).1.2.1) ((wApp ((wOpen newD).1) false ((wLog newD).1) (ofC 1 1)).1.2.2) (ofC 1 3)).1.2.1)) (c := (ofC 1 2)) (show okL ((wApp ((wApp ((wOpen newD).1) false ((wLog newD).1) (ofC 1 1)).1.1) ((wApp ((wOpen newD).1) false ((wLog newD).1) (ofC 1 1)).1.2.1) ((wApp ((wOpen newD).1) false ((wLog newD).1) (ofC 1 1)).1.2.2) (ofC 1 3)).1.2.2) by assumption))
          refine VO.gy rfl ⟨_, rfl, rfl⟩ (.neq rfl rfl) ?_
          refine VO.y rfl (.pF rfl rfl) ?_
          refine VO.mv ?_
          refine VO.dec (t := 35) rfl (fun hc31 => ?_) (fun hc31 => ?_)
          · -- TFFFT
            first | exact absurd rfl hc31 | exact absurd (by first | rfl | decide | (simp only [lv0, lv0l, lv1, lv2, lv3, lvw, lvw1, lvp, lvs, lvo, lvl, lvc2, lvc0.1, lvc0.2, lvs1, lvs2]; first | done | rfl | decide | omega)) hc31 | exact absurd hc31 (by first | decide | (simp only [lv0, lv0l, lv1, lv2, lv3, lvw, lvw1, lvp, lvs, lvo, lvl, lvc2, lvc0.1, lvc0.2, lvs1, lvs2]; first | done | rfl | decide | omega)) | (simp only [lv0, lv0l, lv1, lv2, lv3, lvw, lvw1, lvp, lvs, lvo, lvl, lvc2, lvc0.1, lvc0.2, lvs1, lvs2] at hc31; first | done | exact absurd hc31 (by decide) | exact absurd rfl hc31)
          · -- TFFFF
            refine VO.gy rfl ⟨_, rfl, rfl⟩ (.mv rfl) ?_
            refine VO.gcall 101 rfl ⟨_, rfl, rfl⟩ fnOk33 rfl rfl (fun W hW => wLen_ok W (hW.at (i := 101) rfl) w27_0) (fun v32 m32 hv32 => ?_)
            try dsimp only at hv32
            obtain ⟨rfl, w32_0⟩ := hv32
            refine VO.gy rfl ⟨_, rfl, rfl⟩ (.neq rfl rfl) ?_
            refine VO.y rfl (.pF rfl rfl) ?_
            refine VO.k5 0 1 2 3 39 ?_
            refine VC.cond rfl (fun hc33 => ?_) (fun hc33 => ?_)
            · -- TFFFFT
              first | exact absurd rfl hc33 | exact absurd (by first | rfl | decide | (simp only [lv0, lv0l, lv1, lv2, lv3, lvw, lvw1, lvp, lvs, lvo, lvl, lvc2, lvc0.1, lvc0.2, lvs1, lvs2]; first | done | rfl | decide | omega)) hc33 | exact absurd hc33 (by first | decide | (simp only [lv0, lv0l, lv1, lv2, lv3, lvw, lvw1, lvp, lvs, lvo, lvl, lvc2, lvc0.1, lvc0.2, lvs1, lvs2]; first | done | rfl | decide | omega)) | (simp only [lv0, lv0l, lv1, lv2, lv3, lvw, lvw1, lvp, lvs, lvo, lvl, lvc2, lvc0.1, lvc0.2, lvs1, lvs2] at hc33; first | done | exact absurd hc33 (by decide) | exact absurd rfl hc33)
            · -- TFFFFF
              refine VC.skip ?_
              refine outN ?_
              refine VC.seq ?_
              refine VC.rs ?_
              refine VO.mv ?_
              obtain ⟨q35_E, q35_A2, q35_c2, q35_A3, q35_c3, q35_n0, q35_n2, q35_n3, _, q35_S, q35_0, q35_2, q35_3⟩ := openP_walWal (x0 := (s1_0, ((wApp ((wApp ((wApp ((wOpen newD).1) false ((wLog newD).1) (ofC 1 1)).1.1) ((wApp ((wOpen newD).1) false ((wLog newD).1) (ofC 1 1)).1.2.1) ((wApp ((wOpen newD).1) false ((wLog newD).1) (ofC 1 1)).1.2.2) (ofC 1 3)).1.1) ((wApp ((wApp ((wOpen newD).1) false ((wLog newD).1) (ofC 1 1)).1.1) ((wApp ((wOpen newD).1) false ((wLog newD).1) (ofC 1 1)).1.2.1) ((wApp ((wOpen newD).1) false ((wLog newD).1) (ofC 1 1)).1.2.2) (ofC 1 3)).1.2.1) ((wApp ((wApp ((wOpen newD).1) false ((wLog newD).1) (ofC 1 1)).1.1) ((wApp ((wOpen newD).1) false ((wLog newD).1) (ofC 1 1)).1.2.1) ((wApp ((wOpen newD).1) false ((wLog newD).1) (ofC 1 1)).1.2.2) (ofC 1 3)).1.2.2) (ofC 1 2)).1.1))) (x1 := ((wApp ((wApp ((wApp ((wOpen newD).1) false ((wLog newD).1) (ofC 1 1)).1.1) ((wApp ((wOpen newD).1) false ((wLog newD).1) (ofC 1 1)).1.2.1) ((wApp ((wOpen newD).1) false ((wLog newD).1) (ofC 1 1)).1.2.2) (ofC 1 3)).1.1) ((wApp ((wApp ((wOpen newD).1) false ((wLog newD).1) (ofC 1 1)).1.1) ((wApp ((wOpen newD).1) false ((wLog newD).1) (ofC 1 1)).1.2.1) ((wApp ((wOpen newD).1) false ((wLog newD).1) (ofC 1 1)).1.2.2) (ofC 1 3)).1.2.1) ((wApp ((wApp ((wOpen newD).1) false ((wLog newD).1) (ofC 1 1)).1.1) ((wApp ((wOpen newD).1) false ((wLog newD).1) (ofC 1 1)).1.2.1) ((wApp ((wOpen newD).1) false ((wLog newD).1) (ofC 1 1)).1.2.2) (ofC 1 3)).1.2.2) (ofC 1 2)).1.2.1)) (x2 := ((wApp ((wApp ((wApp ((wOpen newD).1) false ((wLog newD).1) (ofC 1 1)).1.1) ((wApp ((wOpen newD).1) false ((wLog newD).1) (ofC 1 1)).1.2.1) ((wApp ((wOpen newD).1) false ((wLog newD).1) (ofC 1 1)).1.2.2) (ofC 1 3)).1.1) ((wApp ((wApp ((wOpen newD).1) false ((wLog newD).1) (ofC 1 1)).1.1) ((wApp ((wOpen newD).1) false ((wLog newD).1) (ofC 1 1)).1.2.1) ((wApp ((wOpen newD).1) false ((wLog newD).1) (ofC 1 1)).1.2.2) (ofC 1 3)).1.2.1) ((wApp ((wApp ((wOpen newD).1) false ((wLog newD).1) (ofC 1 1)).1.1) ((wApp ((wOpen newD).1) false ((wLog newD).1) (ofC 1 1)).1.2.1) ((wApp ((wOpen newD).1) false ((wLog newD).1) (ofC 1 1)).1.2.2) (ofC 1 3)).1.2.2) (ofC 1 2)).1.2.2)) (x3 := (endsC (wApp ((wApp ((wApp ((wOpen newD).1) false ((wLog newD).1) (ofC 1 1)).1.1) ((wApp ((wOpen newD).1) false ((wLog newD).1) (ofC 1 1)).1.2.1) ((wApp ((wOpen newD).1) false ((wLog newD).1) (ofC 1 1)).1.2.2) (ofC 1 3)).1.1) ((wApp ((wApp ((wOpen newD).1) false ((wLog newD).1) (ofC 1 1)).1.1) ((wApp ((wOpen newD).1) false ((wLog newD).1) (ofC 1 1)).1.2.1) ((wApp ((wOpen newD).1) false ((wLog newD).1) (ofC 1 1)).1.2.2) (ofC 1 3)).1.2.1) ((wApp ((wApp ((wOpen newD).1) false ((wLog newD).1) (ofC 1 1)).1.1) ((wApp ((wOpen newD).1) false ((wLog newD).1) (ofC 1 1)).1.2.1) ((wApp ((wOpen newD).1) false ((wLog newD).1) (ofC 1 1)).1.2.2) (ofC 1 3)).1.2.2) (ofC 1 2)).1.2.2)) w32_0
              dsimp only at q35_0
              have q35_r2 := q35_2.rm
              have q35_r3 := q35_3.rm
              refine VO.inv _ (fun _ h => h.parts (i := 101) rfl q35_S [139, 136, 137, 138]) ?_
              refine VO.call 136 rfl fnOk27 rfl rfl (fun W hW => dPull_ok W (hW.at (i := 136) rfl) q35_0 (by assumption)) (fun v34 m34 hv34 => ?_)
              obtain ⟨rfl, w34_0⟩ := hv34
              have hfa40 := (pull_ok (show okD ((wApp ((wApp ((wApp ((wOpen newD).1) false ((wLog newD).1) (ofC 1 1)).1.1) ((wApp ((wOpen newD).1) false ((wLog newD).1) (ofC 1 1)).1.2.1) ((wApp ((wOpen newD).1) false ((wLog newD).1) (ofC 1 1)).1.2.2) (ofC 1 3)).1.1) ((wApp ((wApp ((wOpen newD).1) false ((wLog newD).1) (ofC 1 1)).1.1) ((wApp ((wOpen newD).1) false ((wLog newD).1) (ofC 1 1)).1.2.1) ((wApp ((wOpen newD).1) false ((wLog newD).1) (ofC 1 1)).1.2.2) (ofC 1 3)).1.2.1) ((wApp ((wApp ((wOpen newD).1) false ((wLog newD).1) (ofC 1 1)).1.1) ((wApp ((wOpen newD).1) false ((wLog newD).1) (ofC 1 1)).1.2.1) ((wApp ((wOpen newD).1) false ((wLog newD).1) (ofC 1 1)).1.2.2) (ofC 1 3)).1.2.2) (ofC 1 2)).1.1) by assumption))
              have hfa41 := (pull_w ((wApp ((wApp ((wApp ((wOpen newD).1) false ((wLog newD).1) (ofC 1 1)).1.1) ((wApp ((wOpen newD).1) false ((wLog newD).1) (ofC 1 1)).1.2.1) ((wApp ((wOpen newD).1) false ((wLog newD).1) (ofC 1 1)).1.2.2) (ofC 1 3)).1.1) ((wApp ((wApp ((wOpen newD).1) false ((wLog newD).1) (ofC 1 1)).1.1) ((wApp ((wOpen newD).1) false ((wLog newD).1) (ofC 1 1)).1.2.1) ((wApp ((wOpen newD).1) false ((wLog newD).1) (ofC 1 1)).1.2.2) (ofC 1 3)).1.2.1) ((wApp ((wApp ((wOpen newD).1) false ((wLog newD).1) (ofC 1 1)).1.1) ((wApp ((wOpen newD).1) false ((wLog newD).1) (ofC 1 1)).1.2.1) ((wApp ((wOpen newD).1) false ((wLog newD).1) (ofC 1 1)).1.2.2) (ofC 1 3)).1.2.2) (ofC 1 2)).1.1))
              refine VO.y rfl (.neq rfl rfl) ?_
              refine VO.mv ?_
              refine VO.dec (t := 43) rfl (fun hc42 => ?_) (fun hc42 => ?_)
              · -- TFFFFFT
                first | exact absurd rfl hc42 | exact absurd (by first | rfl | decide | (simp only [lv0, lv0l, lv1, lv2, lv3, lvw, lvw1, lvp, lvs, lvo, lvl, lvc2, lvc0.1, lvc0.2, lvs1, lvs2]; first | done | rfl | decide | omega)) hc42 | exact absurd hc42 (by first | decide | (simp only [lv0, lv0l, lv1, lv2, lv3, lvw, lvw1, lvp, lvs, lvo, lvl, lvc2, lvc0.1, lvc0.2, lvs1, lvs2]; first | done | rfl | decide | omega)) | (simp only [lv0, lv0l, lv1, lv2, lv3, lvw, lvw1, lvp, lvs, lvo, lvl, lvc2, lvc0.1, lvc0.2, lvs1, lvs2] at hc42; first | done | exact absurd hc42 (by decide) | exact absurd rfl hc42)
              · -- TFFFFFF
                refine VO.gy rfl ⟨_, rfl, rfl⟩ (.mv rfl) ?_
                refine VO.gcall 136 rfl ⟨_, rfl, rfl⟩ fnOk28 rfl rfl (fun W hW => dStart_ok W (hW.at (i := 136) rfl) w34_0 1 bdk 4 bdk (by assumption) (by first | (simp only [lv0, lv0l, lv1, lv2, lv3, lvw, lvw1, lvp, lvs, lvo, lvl, lvc2, lvc0.1, lvc0.2, lvs1, lvs2]; decide +kernel) | decide +kernel)) (fun v43 m43 hv43 => ?_)
                obtain ⟨rfl, w43_0⟩ := hv43
                have hfa44 := (start_ok (k := 1) (t := 4) (show okD ((dPull ((wApp ((wApp ((wApp ((wOpen newD).1) false ((wLog newD).1) (ofC 1 1)).1.1) ((wApp ((wOpen newD).1) false ((wLog newD).1) (ofC 1 1)).1.2.1) ((wApp ((wOpen newD).1) false ((wLog newD).1) (ofC 1 1)).1.2.2) (ofC 1 3)).1.1) ((wApp ((wApp ((wOpen newD).1) false ((wLog newD).1) (ofC 1 1)).1.1) ((wApp ((wOpen newD).1) false ((wLog newD).1) (ofC 1 1)).1.2.1) ((wApp ((wOpen newD).1) false ((wLog newD).1) (ofC 1 1)).1.2.2) (ofC 1 3)).1.2.1) ((wApp ((wApp ((wOpen newD).1) false ((wLog newD).1) (ofC 1 1)).1.1) ((wApp ((wOpen newD).1) false ((wLog newD).1) (ofC 1 1)).1.2.1) ((wApp ((wOpen newD).1) false ((wLog newD).1) (ofC 1 1)).1.2.2) (ofC 1 3)).1.2.2) (ofC 1 2)).1.1)).1) by assumption))
                have hfa45 := (start_w ((dPull ((wApp ((wApp ((wApp ((wOpen newD).1) false ((wLog newD).1) (ofC 1 1)).1.1) ((wApp ((wOpen newD).1) false ((wLog newD).1) (ofC 1 1)).1.2.1) ((wApp ((wOpen newD).1) false ((wLog newD).1) (ofC 1 1)).1.2.2) (ofC 1 3)).1.1) ((wApp ((wApp ((wOpen newD).1) false ((wLog newD).1) (ofC 1 1)).1.1) ((wApp ((wOpen newD).1) false ((wLog newD).1) (ofC 1 1)).1.2.1) ((wApp ((wOpen newD).1) false ((wLog newD).1) (ofC 1 1)).1.2.2) (ofC 1 3)).1.2.1) ((wApp ((wApp ((wOpen newD).1) false ((wLog newD).1) (ofC 1 1)).1.1) ((wApp ((wOpen newD).1) false ((wLog newD).1) (ofC 1 1)).1.2.1) ((wApp ((wOpen newD).1) false ((wLog newD).1) (ofC 1 1)).1.2.2) (ofC 1 3)).1.2.2) (ofC 1 2)).1.1)).1) 1 4)
                refine VO.gy rfl ⟨_, rfl, rfl⟩ (.neq rfl rfl) ?_
                refine VO.y rfl (.pF rfl rfl) ?_
                refine VO.clsP 146 [139, 136, 137, 138] rfl (fun hg46 => (mkP_walWal (s1_0, (dStart ((dPull ((wApp ((wApp ((wApp ((wOpen newD).1) false ((wLog newD).1) (ofC 1 1)).1.1) ((wApp ((wOpen newD).1) false ((wLog newD).1) (ofC 1 1)).1.2.1) ((wApp ((wOpen newD).1) false ((wLog newD).1) (ofC 1 1)).1.2.2) (ofC 1 3)).1.1) ((wApp ((wApp ((wOpen newD).1) false ((wLog newD).1) (ofC 1 1)).1.1) ((wApp ((wOpen newD).1) false ((wLog newD).1) (ofC 1 1)).1.2.1) ((wApp ((wOpen newD).1) false ((wLog newD).1) (ofC 1 1)).1.2.2) (ofC 1 3)).1.2.1) ((wApp ((wApp ((wOpen newD).1) false ((wLog newD).1) (ofC 1 1)).1.1) ((wApp ((wOpen newD).1) false ((wLog newD).1) (ofC 1 1)).1.2.1) ((wApp ((wOpen newD).1) false ((wLog newD).1) (ofC 1 1)).1.2.2) (ofC 1 3)).1.2.2) (ofC 1 2)).1.1)).1) 1 4).1) ((wApp ((wApp ((wApp ((wOpen newD).1) false ((wLog newD).1) (ofC 1 1)).1.1) ((wApp ((wOpen newD).1) false ((wLog newD).1) (ofC 1 1)).1.2.1) ((wApp ((wOpen newD).1) false ((wLog newD).1) (ofC 1 1)).1.2.2) (ofC 1 3)).1.1) ((wApp ((wApp ((wOpen newD).1) false ((wLog newD).1) (ofC 1 1)).1.1) ((wApp ((wOpen newD).1) false ((wLog newD).1) (ofC 1 1)).1.2.1) ((wApp ((wOpen newD).1) false ((wLog newD).1) (ofC 1 1)).1.2.2) (ofC 1 3)).1.2.1) ((wApp ((wApp ((wOpen newD).1) false ((wLog newD).1) (ofC 1 1)).1.1) ((wApp ((wOpen newD).1) false ((wLog newD).1) (ofC 1 1)).1.2.1) ((wApp ((wOpen newD).1) false ((wLog newD).1) (ofC 1 1)).1.2.2) (ofC 1 3)).1.2.2) (ofC 1 2)).1.2.1) ((wApp ((wApp ((wApp ((wOpen newD).1) false ((wLog newD).1) (ofC 1 1)).1.1) ((wApp ((wOpen newD).1) false ((wLog newD).1) (ofC 1 1)).1.2.1) ((wApp ((wOpen newD).1) false ((wLog newD).1) (ofC 1 1)).1.2.2) (ofC 1 3)).1.1) ((wApp ((wApp ((wOpen newD).1) false ((wLog newD).1) (ofC 1 1)).1.1) ((wApp ((wOpen newD).1) false ((wLog newD).1) (ofC 1 1)).1.2.1) ((wApp ((wOpen newD).1) false ((wLog newD).1) (ofC 1 1)).1.2.2) (ofC 1 3)).1.2.1) ((wApp ((wApp ((wOpen newD).1) false ((wLog newD).1) (ofC 1 1)).1.1) ((wApp ((wOpen newD).1) false ((wLog newD).1) (ofC 1 1)).1.2.1) ((wApp ((wOpen newD).1) false ((wLog newD).1) (ofC 1 1)).1.2.2) (ofC 1 3)).1.2.2) (ofC 1 2)).1.2.2) (endsC (wApp ((wApp ((wApp ((wOpen newD).1) false ((wLog newD).1) (ofC 1 1)).1.1) ((wApp ((wOpen newD).1) false ((wLog newD).1) (ofC 1 1)).1.2.1) ((wApp ((wOpen newD).1) false ((wLog newD).1) (ofC 1 1)).1.2.2) (ofC 1 3)).1.1) ((wApp ((wApp ((wOpen newD).1) false ((wLog newD).1) (ofC 1 1)).1.1) ((wApp ((wOpen newD).1) false ((wLog newD).1) (ofC 1 1)).1.2.1) ((wApp ((wOpen newD).1) false ((wLog newD).1) (ofC 1 1)).1.2.2) (ofC 1 3)).1.2.1) ((wApp ((wApp ((wOpen newD).1) false ((wLog newD).1) (ofC 1 1)).1.1) ((wApp ((wOpen newD).1) false ((wLog newD).1) (ofC 1 1)).1.2.1) ((wApp ((wOpen newD).1) false ((wLog newD).1) (ofC 1 1)).1.2.2) (ofC 1 3)).1.2.2) (ofC 1 2)).1.2.2) hg46 w43_0 q35_2 (OwnL.ow (Ow.ownl q35_3 rfl mnil) rfl))) (fun mc46 ho46 => ?_)
                refine VO.k6 0 1 2 3 39 47 ?_
                refine VC.cond rfl (fun hc47 => ?_) (fun hc47 => ?_)
                · -- TFFFFFFT
                  first | exact absurd rfl hc47 | exact absurd (by first | rfl | decide | (simp only [lv0, lv0l, lv1, lv2, lv3, lvw, lvw1, lvp, lvs, lvo, lvl, lvc2, lvc0.1, lvc0.2, lvs1, lvs2]; first | done | rfl | decide | omega)) hc47 | exact absurd hc47 (by first | decide | (simp only [lv0, lv0l, lv1, lv2, lv3, lvw, lvw1, lvp, lvs, lvo, lvl, lvc2, lvc0.1, lvc0.2, lvs1, lvs2]; first | done | rfl | decide | omega)) | (simp only [lv0, lv0l, lv1, lv2, lv3, lvw, lvw1, lvp, lvs, lvo, lvl, lvc2, lvc0.1, lvc0.2, lvs1, lvs2] at hc47; first | done | exact absurd hc47 (by decide) | exact absurd rfl hc47)
                · -- TFFFFFFF
                  refine VC.skip ?_
                  refine outN ?_
                  refine VC.rs ?_
                  refine VO.mv ?_
                  obtain ⟨q48_E, q48_A2, q48_c2, q48_A3, q48_c3, q48_n0, q48_n2, q48_n3, _, q48_S, q48_0, q48_2, q48_3⟩ := openP_walWal (x0 := (s1_0, (dStart ((dPull ((wApp ((wApp ((wApp ((wOpen newD).1) false ((wLog newD).1) (ofC 1 1)).1.1) ((wApp ((wOpen newD).1) false ((wLog newD).1) (ofC 1 1)).1.2.1) ((wApp ((wOpen newD).1) false ((wLog newD).1) (ofC 1 1)).1.2.2) (ofC 1 3)).1.1) ((wApp ((wApp ((wOpen newD).1) false ((wLog newD).1) (ofC 1 1)).1.1) ((wApp ((wOpen newD).1) false ((wLog newD).1) (ofC 1 1)).1.2.1) ((wApp ((wOpen newD).1) false ((wLog newD).1) (ofC 1 1)).1.2.2) (ofC 1 3)).1.2.1) ((wApp ((wApp ((wOpen newD).1) false ((wLog newD).1) (ofC 1 1)).1.1) ((wApp ((wOpen newD).1) false ((wLog newD).1) (ofC 1 1)).1.2.1) ((wApp ((wOpen newD).1) false ((wLog newD).1) (ofC 1 1)).1.2.2) (ofC 1 3)).1.2.2) (ofC 1 2)).1.1)).1) 1 4).1)) (x1 := ((wApp ((wApp ((wApp ((wOpen newD).1) false ((wLog newD).1) (ofC 1 1)).1.1) ((wApp ((wOpen newD).1) false ((wLog newD).1) (ofC 1 1)).1.2.1) ((wApp ((wOpen newD).1) false ((wLog newD).1) (ofC 1 1)).1.2.2) (ofC 1 3)).1.1) ((wApp ((wApp ((wOpen newD).1) false ((wLog newD).1) (ofC 1 1)).1.1) ((wApp ((wOpen newD).1) false ((wLog newD).1) (ofC 1 1)).1.2.1) ((wApp ((wOpen newD).1) false ((wLog newD).1) (ofC 1 1)).1.2.2) (ofC 1 3)).1.2.1) ((wApp ((wApp ((wOpen newD).1) false ((wLog newD).1) (ofC 1 1)).1.1) ((wApp ((wOpen newD).1) false ((wLog newD).1) (ofC 1 1)).1.2.1) ((wApp ((wOpen newD).1) false ((wLog newD).1) (ofC 1 1)).1.2.2) (ofC 1 3)).1.2.2) (ofC 1 2)).1.2.1)) (x2 := ((wApp ((wApp ((wApp ((wOpen newD).1) false ((wLog newD).1) (ofC 1 1)).1.1) ((wApp ((wOpen newD).1) false ((wLog newD).1) (ofC 1 1)).1.2.1) ((wApp ((wOpen newD).1) false ((wLog newD).1) (ofC 1 1)).1.2.2) (ofC 1 3)).1.1) ((wApp ((wApp ((wOpen newD).1) false ((wLog newD).1) (ofC 1 1)).1.1) ((wApp ((wOpen newD).1) false ((wLog newD).1) (ofC 1 1)).1.2.1) ((wApp ((wOpen newD).1) false ((wLog newD).1) (ofC 1 1)).1.2.2) (ofC 1 3)).1.2.1) ((wApp ((wApp ((wOpen newD).1) false ((wLog newD).1) (ofC 1 1)).1.1) ((wApp ((wOpen newD).1) false ((wLog newD).1) (ofC 1 1)).1.2.1) ((wApp ((wOpen newD).1) false ((wLog newD).1) (ofC 1 1)).1.2.2) (ofC 1 3)).1.2.2) (ofC 1 2)).1.2.2)) (x3 := (endsC (wApp ((wApp ((wApp ((wOpen newD).1) false ((wLog newD).1) (ofC 1 1)).1.1) ((wApp ((wOpen newD).1) false ((wLog newD).1) (ofC 1 1)).1.2.1) ((wApp ((wOpen newD).1) false ((wLog newD).1) (ofC 1 1)).1.2.2) (ofC 1 3)).1.1) ((wApp ((wApp ((wOpen newD).1) false ((wLog newD).1) (ofC 1 1)).1.1) ((wApp ((wOpen newD).1) false ((wLog newD).1) (ofC 1 1)).1.2.1) ((wApp ((wOpen newD).1) false ((wLog newD).1) (ofC 1 1)).1.2.2) (ofC 1 3)).1.2.1) ((wApp ((wApp ((wOpen newD).1) false ((wLog newD).1) (ofC 1 1)).1.1) ((wApp ((wOpen newD).1) false ((wLog newD).1) (ofC 1 1)).1.2.1) ((wApp ((wOpen newD).1) false ((wLog newD).1) (ofC 1 1)).1.2.2) (ofC 1 3)).1.2.2) (ofC 1 2)).1.2.2)) ho46
                  dsimp only at q48_0
                  have q48_r2 := q48_2.rm
                  have q48_r3 := q48_3.rm
                  refine VO.inv _ (fun _ h => h.parts (i := 146) rfl q48_S [152, 149, 150, 151]) ?_
                  by_cases hsp53 : (wOpen ((dStart ((dPull ((wApp ((wApp ((wApp ((wOpen newD).1) false ((wLog newD).1) (ofC 1 1)).1.1) ((wApp ((wOpen newD).1) false ((wLog newD).1) (ofC 1 1)).1.2.1) ((wApp ((wOpen newD).1) false ((wLog newD).1) (ofC 1 1)).1.2.2) (ofC 1 3)).1.1) ((wApp ((wApp ((wOpen newD).1) false ((wLog newD).1) (ofC 1 1)).1.1) ((wApp ((wOpen newD).1) false ((wLog newD).1) (ofC 1 1)).1.2.1) ((wApp ((wOpen newD).1) false ((wLog newD).1) (ofC 1 1)).1.2.2) (ofC 1 3)).1.2.1) ((wApp ((wApp ((wOpen newD).1) false ((wLog newD).1) (ofC 1 1)).1.1) ((wApp ((wOpen newD).1) false ((wLog newD).1) (ofC 1 1)).1.2.1) ((wApp ((wOpen newD).1) false ((wLog newD).1) (ofC 1 1)).1.2.2) (ofC 1 3)).1.2.2) (ofC 1 2)).1.1)).1) 1 4).1)).2 = 0
                  · -- TFFFFFFFT
                    refine VO.call 149 rfl fnOk15 rfl rfl (fun W hW => wOpenY_ok W (hW.at (i := 149) rfl) q48_0 (by assumption) (by first | (simp only [lv0, lv0l, lv1, lv2, lv3, lvw, lvw1, lvp, lvs, lvo, lvl, lvc2, lvc0.1, lvc0.2, lvs1, lvs2]; decide +kernel) | decide +kernel) (by assumption)) (fun v54 m54 hv54 => ?_)
                    obtain ⟨s54_0, rfl, f54_0⟩ := hv54
                    have hfa55 := (open_ok (show okD ((dStart ((dPull ((wApp ((wApp ((wApp ((wOpen newD).1) false ((wLog newD).1) (ofC 1 1)).1.1) ((wApp ((wOpen newD).1) false ((wLog newD).1) (ofC 1 1)).1.2.1) ((wApp ((wOpen newD).1) false ((wLog newD).1) (ofC 1 1)).1.2.2) (ofC 1 3)).1.1) ((wApp ((wApp ((wOpen newD).1) false ((wLog newD).1) (ofC 1 1)).1.1) ((wApp ((wOpen newD).1) false ((wLog newD).1) (ofC 1 1)).1.2.1) ((wApp ((wOpen newD).1) false ((wLog newD).1) (ofC 1 1)).1.2.2) (ofC 1 3)).1.2.1) ((wApp ((wApp ((wOpen newD).1) false ((wLog newD).1) (ofC 1 1)).1.1) ((wApp ((wOpen newD).1) false ((wLog newD).1) (ofC 1 1)).1.2.1) ((wApp ((wOpen newD).1) false ((wLog newD).1) (ofC 1 1)).1.2.2) (ofC 1 3)).1.2.2) (ofC 1 2)).1.1)).1) 1 4).1) by assumption))
                    have hfa56 := (open_w (show okD ((dStart ((dPull ((wApp ((wApp ((wApp ((wOpen newD).1) false ((wLog newD).1) (ofC 1 1)).1.1) ((wApp ((wOpen newD).1) false ((wLog newD).1) (ofC 1 1)).1.2.1) ((wApp ((wOpen newD).1) false ((wLog newD).1) (ofC 1 1)).1.2.2) (ofC 1 3)).1.1) ((wApp ((wApp ((wOpen newD).1) false ((wLog newD).1) (ofC 1 1)).1.1) ((wApp ((wOpen newD).1) false ((wLog newD).1) (ofC 1 1)).1.2.1) ((wApp ((wOpen newD).1) false ((wLog newD).1) (ofC 1 1)).1.2.2) (ofC 1 3)).1.2.1) ((wApp ((wApp ((wOpen newD).1) false ((wLog newD).1) (ofC 1 1)).1.1) ((wApp ((wOpen newD).1) false ((wLog newD).1) (ofC 1 1)).1.2.1) ((wApp ((wOpen newD).1) false ((wLog newD).1) (ofC 1 1)).1.2.2) (ofC 1 3)).1.2.2) (ofC 1 2)).1.1)).1) 1 4).1) by assumption))
                    have hfa57 := (log_bounds (dRead ((dStart ((dPull ((wApp ((wApp ((wApp ((wOpen newD).1) false ((wLog newD).1) (ofC 1 1)).1.1) ((wApp ((wOpen newD).1) false ((wLog newD).1) (ofC 1 1)).1.2.1) ((wApp ((wOpen newD).1) false ((wLog newD).1) (ofC 1 1)).1.2.2) (ofC 1 3)).1.1) ((wApp ((wApp ((wOpen newD).1) false ((wLog newD).1) (ofC 1 1)).1.1) ((wApp ((wOpen newD).1) false ((wLog newD).1) (ofC 1 1)).1.2.1) ((wApp ((wOpen newD).1) false ((wLog newD).1) (ofC 1 1)).1.2.2) (ofC 1 3)).1.2.1) ((wApp ((wApp ((wOpen newD).1) false ((wLog newD).1) (ofC 1 1)).1.1) ((wApp ((wOpen newD).1) false ((wLog newD).1) (ofC 1 1)).1.2.1) ((wApp ((wOpen newD).1) false ((wLog newD).1) (ofC 1 1)).1.2.2) (ofC 1 3)).1.2.2) (ofC 1 2)).1.1)).1) 1 4).1) 0).1)
                    have hfa58 := (okL_log ((dStart ((dPull ((wApp ((wApp ((wApp ((wOpen newD).1) false ((wLog newD).1) (ofC 1 1)).1.1) ((wApp ((wOpen newD).1) false ((wLog newD).1) (ofC 1 1)).1.2.1) ((wApp ((wOpen newD).1) false ((wLog newD).1) (ofC 1 1)).1.2.2) (ofC 1 3)).1.1) ((wApp ((wApp ((wOpen newD).1) false ((wLog newD).1) (ofC 1 1)).1.1) ((wApp ((wOpen newD).1) false ((wLog newD).1) (ofC 1 1)).1.2.1) ((wApp ((wOpen newD).1) false ((wLog newD).1) (ofC 1 1)).1.2.2) (ofC 1 3)).1.2.1) ((wApp ((wApp ((wOpen newD).1) false ((wLog newD).1) (ofC 1 1)).1.1) ((wApp ((wOpen newD).1) false ((wLog newD).1) (ofC 1 1)).1.2.1) ((wApp ((wOpen newD).1) false ((wLog newD).1) (ofC 1 1)).1.2.2) (ofC 1 3)).1.2.2) (ofC 1 2)).1.1)).1) 1 4).1))
                    refine VO.mv ?_
                    refine VO.y rfl (.ext rfl rfl) ?_
                    refine VO.y rfl (.ext rfl rfl) ?_
                    refine VO.as ?_
                    refine VO.as ?_
                    refine VO.kp [149, 152, 150, 151, 0] [(149, m54), (152, mone s5_0 (.cells [Value.pointer (some ⟨s1_0, 0, none⟩), Value.bool ((wApp ((wApp ((wApp ((wOpen newD).1) false ((wLog newD).1) (ofC 1 1)).1.1) ((wApp ((wOpen newD).1) false ((wLog newD).1) (ofC 1 1)).1.2.1) ((wApp ((wOpen newD).1) false ((wLog newD).1) (ofC 1 1)).1.2.2) (ofC 1 3)).1.1) ((wApp ((wApp ((wOpen newD).1) false ((wLog newD).1) (ofC 1 1)).1.1) ((wApp ((wOpen newD).1) false ((wLog newD).1) (ofC 1 1)).1.2.1) ((wApp ((wOpen newD).1) false ((wLog newD).1) (ofC 1 1)).1.2.2) (ofC 1 3)).1.2.1) ((wApp ((wApp ((wOpen newD).1) false ((wLog newD).1) (ofC 1 1)).1.1) ((wApp ((wOpen newD).1) false ((wLog newD).1) (ofC 1 1)).1.2.1) ((wApp ((wOpen newD).1) false ((wLog newD).1) (ofC 1 1)).1.2.2) (ofC 1 3)).1.2.2) (ofC 1 2)).1.2.1), Value.slice q48_A2 (((wApp ((wApp ((wApp ((wOpen newD).1) false ((wLog newD).1) (ofC 1 1)).1.1) ((wApp ((wOpen newD).1) false ((wLog newD).1) (ofC 1 1)).1.2.1) ((wApp ((wOpen newD).1) false ((wLog newD).1) (ofC 1 1)).1.2.2) (ofC 1 3)).1.1) ((wApp ((wApp ((wOpen newD).1) false ((wLog newD).1) (ofC 1 1)).1.1) ((wApp ((wOpen newD).1) false ((wLog newD).1) (ofC 1 1)).1.2.1) ((wApp ((wOpen newD).1) false ((wLog newD).1) (ofC 1 1)).1.2.2) (ofC 1 3)).1.2.1) ((wApp ((wApp ((wOpen newD).1) false ((wLog newD).1) (ofC 1 1)).1.1) ((wApp ((wOpen newD).1) false ((wLog newD).1) (ofC 1 1)).1.2.1) ((wApp ((wOpen newD).1) false ((wLog newD).1) (ofC 1 1)).1.2.2) (ofC 1 3)).1.2.2) (ofC 1 2)).1.2.2).length) (q48_c2), Value.slice q48_A3 ((endsC (wApp ((wApp ((wApp ((wOpen newD).1) false ((wLog newD).1) (ofC 1 1)).1.1) ((wApp ((wOpen newD).1) false ((wLog newD).1) (ofC 1 1)).1.2.1) ((wApp ((wOpen newD).1) false ((wLog newD).1) (ofC 1 1)).1.2.2) (ofC 1 3)).1.1) ((wApp ((wApp ((wOpen newD).1) false ((wLog newD).1) (ofC 1 1)).1.1) ((wApp ((wOpen newD).1) false ((wLog newD).1) (ofC 1 1)).1.2.1) ((wApp ((wOpen newD).1) false ((wLog newD).1) (ofC 1 1)).1.2.2) (ofC 1 3)).1.2.1) ((wApp ((wApp ((wOpen newD).1) false ((wLog newD).1) (ofC 1 1)).1.1) ((wApp ((wOpen newD).1) false ((wLog newD).1) (ofC 1 1)).1.2.1) ((wApp ((wOpen newD).1) false ((wLog newD).1) (ofC 1 1)).1.2.2) (ofC 1 3)).1.2.2) (ofC 1 2)).1.2.2).length) (q48_c3)].toArray q48_E (0, 0))), (150, q48_n2), (151, q48_n3), (0, wm W)] ?_
                    refine VO.k7 0 1 2 3 4 39 47 ?_
                    refine VC.rs ?_
                    refine VO.mv ?_
                    refine VO.y rfl (.eql rfl rfl) ?_
                    refine VO.mv ?_
                    refine VO.dec (t := 55) rfl (fun hc59 => ?_) (fun hc59 => ?_)
                    · -- TFFFFFFFTT
                      refine VO.gy rfl ⟨_, rfl, rfl⟩ (.mv rfl) ?_
                      refine VO.gcall 149 rfl ⟨_, rfl, rfl⟩ fnOk31 rfl rfl (fun W hW => wEnd_ok W (hW.at (i := 149) rfl) f54_0) (fun v60 m60 hv60 => ?_)
                      try dsimp only at hv60
                      obtain ⟨rfl, w60_0⟩ := hv60
                      refine VO.gy rfl ⟨_, rfl, rfl⟩ (.eql rfl rfl) ?_
                      refine VO.y rfl (.pT rfl rfl) ?_
                      refine VO.mv ?_
                      refine VO.dec (t := 60) rfl (fun hc61 => ?_) (fun hc61 => ?_)
                      · -- TFFFFFFFTTT
                        refine VO.gy rfl ⟨_, rfl, rfl⟩ (.mv rfl) ?_
                        refine VO.gcall 149 rfl ⟨_, rfl, rfl⟩ fnOk33 rfl rfl (fun W hW => wLen_ok W (hW.at (i := 149) rfl) w60_0) (fun v62 m62 hv62 => ?_)
                        try dsimp only at hv62
                        obtain ⟨rfl, w62_0⟩ := hv62
                        refine VO.gy rfl ⟨_, rfl, rfl⟩ (.eql rfl rfl) ?_
                        refine VO.y rfl (.pT rfl rfl) ?_
                        refine VO.mv ?_
                        refine VO.dec (t := 65) rfl (fun hc63 => ?_) (fun hc63 => ?_)
                        · -- TFFFFFFFTTTT
                          refine VO.gy rfl ⟨_, rfl, rfl⟩ (.mv rfl) ?_
                          refine VO.gcall 149 rfl ⟨_, rfl, rfl⟩ fnOk20 rfl rfl (fun W hW => wEpoch_ok W (hW.at (i := 149) rfl) w62_0) (fun v64 m64 hv64 => ?_)
                          try dsimp only at hv64
                          obtain ⟨rfl, w64_0⟩ := hv64
                          refine VO.gy rfl ⟨_, rfl, rfl⟩ (.eql rfl rfl) ?_
                          refine VO.y rfl (.pT rfl rfl) ?_
                          refine VO.as ?_
                          refine VO.k7 0 1 2 3 4 39 47 ?_
                          refine VC.ret ?_
                          refine ⟨_, _, res_run (rs := [.tmp 0]) rfl (.tmp rfl .nil), fun W_ hI => out_of (l := []) hI [] rfl rfl (mle_refl _) (fun hS_ => ?_)⟩
                          dsimp only [packV]
                          all_goals (first | rfl | (first | exact congrArg Value.bool (decide_eq_true (by (simp only [lv0, lv0l, lv1, lv2, lv3, lvw, lvw1, lvp, lvs, lvo, lvl, lvc2, lvc0.1, lvc0.2, lvs1, lvs2]; first | done | rfl | decide | omega))) | rfl))
                        · -- TFFFFFFFTTTF
                          first | exact absurd rfl hc63 | exact absurd (by first | rfl | decide | (simp only [lv0, lv0l, lv1, lv2, lv3, lvw, lvw1, lvp, lvs, lvo, lvl, lvc2, lvc0.1, lvc0.2, lvs1, lvs2]; first | done | rfl | decide | omega)) hc63 | exact absurd hc63 (by first | decide | (simp only [lv0, lv0l, lv1, lv2, lv3, lvw, lvw1, lvp, lvs, lvo, lvl, lvc2, lvc0.1, lvc0.2, lvs1, lvs2]; first | done | rfl | decide | omega)) | (simp only [lv0, lv0l, lv1, lv2, lv3, lvw, lvw1, lvp, lvs, lvo, lvl, lvc2, lvc0.1, lvc0.2, lvs1, lvs2] at hc63; first | done | exact absurd hc63 (by decide) | exact absurd rfl hc63)
                      · -- TFFFFFFFTTF
                        first | exact absurd rfl hc61 | exact absurd (by first | rfl | decide | (simp only [lv0, lv0l, lv1, lv2, lv3, lvw, lvw1, lvp, lvs, lvo, lvl, lvc2, lvc0.1, lvc0.2, lvs1, lvs2]; first | done | rfl | decide | omega)) hc61 | exact absurd hc61 (by first | decide | (simp only [lv0, lv0l, lv1, lv2, lv3, lvw, lvw1, lvp, lvs, lvo, lvl, lvc2, lvc0.1, lvc0.2, lvs1, lvs2]; first | done | rfl | decide | omega)) | (simp only [lv0, lv0l, lv1, lv2, lv3, lvw, lvw1, lvp, lvs, lvo, lvl, lvc2, lvc0.1, lvc0.2, lvs1, lvs2] at hc61; first | done | exact absurd hc61 (by decide) | exact absurd rfl hc61)
                    · -- TFFFFFFFTF
                      first | exact absurd rfl hc59 | exact absurd (by first | rfl | decide | (simp only [lv0, lv0l, lv1, lv2, lv3, lvw, lvw1, lvp, lvs, lvo, lvl, lvc2, lvc0.1, lvc0.2, lvs1, lvs2]; first | done | rfl | decide | omega)) hc59 | exact absurd hc59 (by first | decide | (simp only [lv0, lv0l, lv1, lv2, lv3, lvw, lvw1, lvp, lvs, lvo, lvl, lvc2, lvc0.1, lvc0.2, lvs1, lvs2]; first | done | rfl | decide | omega)) | (simp only [lv0, lv0l, lv1, lv2, lv3, lvw, lvw1, lvp, lvs, lvo, lvl, lvc2, lvc0.1, lvc0.2, lvs1, lvs2] at hc59; first | done | exact absurd hc59 (by decide) | exact absurd rfl hc59)
                  · -- TFFFFFFFF
                    first | exact absurd rfl hsp53 | exact absurd (by first | rfl | decide | (simp only [lv0, lv0l, lv1, lv2, lv3, lvw, lvw1, lvp, lvs, lvo, lvl, lvc2, lvc0.1, lvc0.2, lvs1, lvs2]; first | done | rfl | decide | omega)) hsp53 | exact absurd hsp53 (by first | decide | (simp only [lv0, lv0l, lv1, lv2, lv3, lvw, lvw1, lvp, lvs, lvo, lvl, lvc2, lvc0.1, lvc0.2, lvs1, lvs2]; first | done | rfl | decide | omega)) | (simp only [lv0, lv0l, lv1, lv2, lv3, lvw, lvw1, lvp, lvs, lvo, lvl, lvc2, lvc0.1, lvc0.2, lvs1, lvs2] at hsp53; first | done | exact absurd hsp53 (by decide) | exact absurd rfl hsp53)
  · -- F
    first | exact absurd rfl hsp4 | exact absurd (by first | rfl | decide | (simp only [lv0, lv0l, lv1, lv2, lv3, lvw, lvw1, lvp, lvs, lvo, lvl, lvc2, lvc0.1, lvc0.2, lvs1, lvs2]; first | done | rfl | decide | omega)) hsp4 | exact absurd hsp4 (by first | decide | (simp only [lv0, lv0l, lv1, lv2, lv3, lvw, lvw1, lvp, lvs, lvo, lvl, lvc2, lvc0.1, lvc0.2, lvs1, lvs2]; first | done | rfl | decide | omega)) | (simp only [lv0, lv0l, lv1, lv2, lv3, lvw, lvw1, lvp, lvs, lvo, lvl, lvc2, lvc0.1, lvc0.2, lvs1, lvs2] at hsp4; first | done | exact absurd hsp4 (by decide) | exact absurd rfl hsp4)
end
section
set_option linter.unusedVariables false
set_option linter.unusedSimpArgs false
set_option maxRecDepth 4000
theorem fnOk24 : fnOk Try.prog 24 = true := by kernel_rfl
theorem fnOk29 : fnOk Try.prog 29 = true := by kernel_rfl
theorem fnOk8 : fnOk Try.prog 8 = true := by kernel_rfl
end
end Go.Proofs.Ytdoamgdanlnlfaa
