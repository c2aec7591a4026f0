/- Part 6 of the proof of LWalScan: what it needs of the library, the walks and the plain laws. Conditions: those named in each theorem. -/
import Derived.Test.YtdoamgdanlnlfaaLWalScanM5
namespace Go.Proofs.Ytdoamgdanlnlfaa
section
set_option linter.unusedVariables false
set_option linter.unusedSimpArgs false
set_option maxRecDepth 4000
theorem fnOk20 : fnOk Try.prog 20 = true := by kernel_rfl
theorem fnOk26 : fnOk Try.prog 26 = true := by kernel_rfl
theorem fnOk31 : fnOk Try.prog 31 = true := by kernel_rfl
theorem fnOk36 : fnOk Try.prog 36 = true := by kernel_rfl
theorem fnOk40 : fnOk Try.prog 40 = true := by kernel_rfl
theorem fnOk41 : fnOk Try.prog 41 = true := by kernel_rfl
theorem fnOk50 : fnOk Try.prog 50 = true := by kernel_rfl
theorem fnOk51 : fnOk Try.prog 51 = true := by kernel_rfl
theorem fnOk52 : fnOk Try.prog 52 = true := by kernel_rfl
theorem fnOk53 : fnOk Try.prog 53 = true := by kernel_rfl
theorem fnOk55 : fnOk Try.prog 55 = true := by kernel_rfl
theorem fnOk56 : fnOk Try.prog 56 = true := by kernel_rfl
theorem fnOk57 : fnOk Try.prog 57 = true := by kernel_rfl
theorem fnOk58 : fnOk Try.prog 58 = true := by kernel_rfl
theorem fnOk64 : fnOk Try.prog 64 = true := by kernel_rfl
theorem tk37 : tk Try.prog 37 = some none := by kernel_rfl
theorem tst58 : tst Try.prog 58 = some [(0, 1), (1, 1), (2, 1), (3, 1)] := by kernel_rfl
theorem tz58 : tz Try.prog 58 = some [.pointer none, .bool false, .slice none 0 0, .slice none 0 0] := by kernel_rfl
theorem wLength_ok (W : World) {v0 : Value} {d0 : List Int} (h0 : Rd (.sl (.int .i64)) (wm W) [v0] d0) : CallR Try.prog 41 [v0] W (mnil) (fun v m' => v = .int .i64 (lenW d0)) := by
 obtain ⟨A0, c0, rfl, l0, k0⟩ := h0.slice
 simp only [maxLen] at k0
 refine CallR.ofA (n := 12) Try.func41 rfl rfl rfl ?_
 refine VC.rs (VO.as (VO.k2 0 2 (VC.seq (VC.rs (VO.mv ?_)))))
 refine VO.y rfl (.lenS rfl tsl56) ?_
 refine VO.y rfl (.eql rfl rfl) (VO.k3 0 2 5 ?_)
 refine VC.cond rfl (fun hc1 => ?_) (fun hc1 => ?_)
 · refine VC.rs (VO.as ?_)
   refine VO.kp [0] [(0, wm W)] ?_
   refine VO.k3 0 2 5 (VC.ret (outR ?_))
   refine ⟨_, _, res_run (rs := [.tmp 2]) rfl (.tmp rfl .nil), fun W_ hI => out_of (l := []) hI [] rfl rfl (mle_refl _) (fun hS_ => ?_)⟩
   dsimp only [packV]
   all_goals (first | rfl | (first | exact congrArg (Value.int _) (lenW_at ‹d0[_]? = some _› (by omega)).symm | exact congrArg (Value.int _) (lenW_nil (by omega)).symm))
 · refine VC.skip (outN (VC.rs (VO.mv (VO.mv ?_))))
   refine VO.y rfl (.lenS rfl tsl56) ?_
   refine VO.y rfl (.sub rfl rfl rfl ⟨bd, bd⟩) ?_
   obtain ⟨x2, hx2⟩ : ∃ z_, (d0)[(((d0.length : Nat) : Int) - 1).toNat]? = some z_ := ⟨_, List.getElem?_eq_getElem bd⟩
   obtain ⟨gg2, oo2, ec2, ea2, hce2, hre2⟩ := h0.elem hx2
   cases ea2
   obtain ⟨rfl, q2⟩ := hre2; simp only [inK] at q2
   refine VO.y rfl (.ixI ((((d0.length : Nat) : Int) - 1).toNat) rfl rfl tsl56 bd bd) ?_
   refine VO.y rfl (.ld1 0 rfl tk3 rfl hce2) ?_
   refine VO.as ?_
   refine VO.kp [0] [(0, wm W)] ?_
   refine VO.k3 0 2 5 (VC.ret ?_)
   refine ⟨_, _, res_run (rs := [.tmp 2]) rfl (.tmp rfl .nil), fun W_ hI => out_of (l := []) hI [] rfl rfl (mle_refl _) (fun hS_ => ?_)⟩
   dsimp only [packV]
   all_goals (first | rfl | (first | exact congrArg (Value.int _) (lenW_at ‹d0[_]? = some _› (by omega)).symm | exact congrArg (Value.int _) (lenW_nil (by omega)).symm))
theorem wScan_ok (W : World) {v0 : Value} {d0 : List UInt8} (h0 : Rd (.sl .byte) (wm W) [v0] d0) (e0 : d0.length ≤ 140737488355000) : CallR Try.prog 10 [v0] W (mnil) (fun v m' => ∃ (s0 : Value), v = .tuple #[s0, .int .i64 ((logF d0).2)] ∧ Ow (.sl TCommit) m' [s0] ((logF d0).1)) := by
 obtain ⟨A0, c0, rfl, l0, k0⟩ := h0.slice
 simp only [maxLen] at k0
 refine CallR.ofA (n := 14) Try.func10 rfl rfl rfl ?_
 refine VC.rs (VO.as (VO.as (VO.k3 0 2 3 (VC.rs (VO.mv ?_)))))
 refine VO.callN 101 rfl fnOk40 rfl (fun W hW => wScanE_ok W (Rd.mono h0 (hW.at (i := 0) rfl)) bd) (fun v1 m1 hv1 => ?_)
 obtain ⟨s1_0, s1_1, p1_0, p1_1, rfl, hS1, f1_0, f1_1⟩ := hv1
 refine VO.inv _ (fun _ h => h.parts (i := 101) rfl hS1 [102, 103]) ?_
 have hfa4 := log_bounds d0
 obtain ⟨A1_0, c1_0, eq1_0, l1_0, k1_0⟩ := f1_0.slice
 subst eq1_0
 simp only [maxLen] at k1_0
 obtain ⟨A1_1, c1_1, eq1_1, l1_1, k1_1⟩ := f1_1.slice
 subst eq1_1
 simp only [maxLen] at k1_1
 refine VO.mv (VO.y rfl (.ext rfl rfl) (VO.y rfl (.ext rfl rfl) (VO.as (VO.as (VO.k5 0 2 3 4 5 (VC.rs (VO.mv (VO.mv ?_))))))))
 refine VO.callN 105 rfl fnOk41 rfl (fun W hW => wLength_ok W (OwnL.rd (Ow.ownl f1_1 rfl mnil) (hW.at (i := 103) rfl) (mle_nil _))) (fun v5 m5 hv5 => ?_)
 subst hv5
 refine VO.as (VO.as ?_)
 refine VO.kp [102, 103, 0] [(102, p1_0), (103, p1_1), (0, wm W)] ?_
 refine VO.k5 0 2 3 4 5 (VC.ret ?_)
 refine ⟨_, _, res_run (rs := [.tmp 2, .tmp 3]) rfl (.tmp rfl (.tmp rfl .nil)), fun W_ hI => out_of (l := [p1_0]) hI [102] rfl rfl (mle_refl _) (fun hS_ => ?_)⟩
 dsimp only [packV]
 have he0 : ((logF d0).1 : Ty.Den (.sl TCommit)) = (logF d0).1 := by first | rfl | (simp [*]; done)
 refine ⟨Value.slice A1_0 (((logF d0).1).length) (c1_0), ?_, ?_⟩
 rotate_left
 · rw [he0]; exact (Ow.up f1_0 (hS_.1 _ (.head _)))
 all_goals (first | rfl | ((rw [(log_bounds d0).2.2.2.2.1]; rfl)))
theorem wNone_ok (W : World) {es_ : List Int} {l_ : List DCommit} {br_ : Bool} {D_ : DdiskDisk} {gd_ : Nat} {m0 : Mem} (hm : mle (m0) (wm W)) {g0 : Nat} (h0 : Ow (.ptr TwalWal) m0 [.pointer (some ⟨g0, 0, none⟩)] (g0, ((gd_, D_), br_, l_, es_))) : CallR Try.prog 64 [.pointer (some ⟨g0, 0, none⟩)] W (m0) (fun v m' => v = .bool (decide (False)) ∧ Ow (.ptr TwalWal) m' [.pointer (some ⟨g0, 0, none⟩)] (g0, ((gd_, D_), br_, l_, es_))) := by
 refine CallR.ofB (n := 12) hm Try.func64 rfl rfl rfl ?_
 refine VC.rs (VO.as (VO.k2 0 2 (VC.rs (VO.mv ?_))))
 refine VO.y rfl (.pnil rfl rfl Try.underlying33 rfl) ?_
 refine VO.mv (VO.gy rfl ⟨_, rfl, rfl⟩ (.mv rfl) (VO.gy rfl ⟨_, rfl, rfl⟩ (.nilp rfl) ?_))
 refine VO.gy rfl ⟨_, rfl, rfl⟩ (.fa rfl tst58 rfl) ?_
 obtain ⟨q1_E, q1_A2, q1_c2, q1_A3, q1_c3, q1_n0, q1_n2, q1_n3, _, q1_S, q1_0, q1_2, q1_3⟩ := openP_walWal (x0 := (gd_, D_)) (x1 := br_) (x2 := l_) (x3 := es_) h0
 dsimp only at q1_0
 have q1_r2 := q1_2.rm
 have q1_r3 := q1_3.rm
 refine VO.inv _ (fun _ h => h.parts (i := 1) rfl q1_S [105, 102, 103, 104]) ?_
 refine VO.gy rfl ⟨_, rfl, rfl⟩ (.ld1 105 rfl tk37 rfl (cellsAt_one rfl rfl)) ?_
 refine VO.gy rfl ⟨_, rfl, rfl⟩ (.pnil rfl rfl Try.underlying37 rfl) ?_
 refine VO.y rfl (.pF rfl rfl) (VO.as ?_)
 refine VO.clsP 106 [105, 102, 103, 104] rfl (fun hg6 => (mkP_walWal (gd_, D_) br_ l_ es_ hg6 q1_0 q1_2 (OwnL.ow (Ow.ownl q1_3 rfl mnil) rfl))) (fun mc6 ho6 => ?_)
 refine VO.k2 0 2 (VC.ret ?_)
 refine ⟨_, _, res_run (rs := [.tmp 2]) rfl (.tmp rfl .nil), fun W_ hI => out_of (l := [mc6]) hI [106] rfl rfl (mle_refl _) (fun hS_ => ?_)⟩
 dsimp only [packV]
 have hm0_ : (((gd_, D_), br_, l_, es_) : DwalWal) = ((gd_, D_), br_, l_, es_) := by first | rfl | (simp [*]; done)
 refine ⟨?_, ?_⟩
 rotate_left
 · rw [hm0_]; exact (Ow.up ho6 (hS_.1 _ (.head _)))
 all_goals (first | rfl | (simp [*]; done))
theorem wEnd_ok (W : World) {es_ : List Int} {l_ : List DCommit} {br_ : Bool} {D_ : DdiskDisk} {gd_ : Nat} {m0 : Mem} (hm : mle (m0) (wm W)) {g0 : Nat} (h0 : Ow (.ptr TwalWal) m0 [.pointer (some ⟨g0, 0, none⟩)] (g0, ((gd_, D_), br_, l_, es_))) : CallR Try.prog 31 [.pointer (some ⟨g0, 0, none⟩)] W (m0) (fun v m' => v = .int .i64 ((l_.length : Nat) : Int) ∧ Ow (.ptr TwalWal) m' [.pointer (some ⟨g0, 0, none⟩)] (g0, ((gd_, D_), br_, l_, es_))) := by
 refine CallR.ofB (n := 10) hm Try.func31 rfl rfl rfl ?_
 refine VC.rs (VO.as (VO.k2 0 2 (VC.seq (VC.rs (VO.mv ?_)))))
 refine VO.call 1 rfl fnOk64 rfl rfl (fun W hW => wNone_ok W (hW.at (i := 1) rfl) h0) (fun v1 m1 hv1 => ?_)
 try dsimp only at hv1
 obtain ⟨rfl, w1_0⟩ := hv1
 refine VO.k3 0 2 4 ?_
 refine VC.cond rfl (fun hc2 => ?_) (fun hc2 => ?_)
 exact hc2.elim
 · refine VC.skip (outN (VC.rs (VO.mv (VO.y rfl (.nilp rfl) (VO.y rfl (.fa rfl tst58 rfl) ?_)))))
   obtain ⟨q3_E, q3_A2, q3_c2, q3_A3, q3_c3, q3_n0, q3_n2, q3_n3, _, q3_S, q3_0, q3_2, q3_3⟩ := openP_walWal (x0 := (gd_, D_)) (x1 := br_) (x2 := l_) (x3 := es_) w1_0
   dsimp only at q3_0
   have q3_r2 := q3_2.rm
   have q3_r3 := q3_3.rm
   refine VO.inv _ (fun _ h => h.parts (i := 1) rfl q3_S [107, 104, 105, 106]) ?_
   refine VO.y rfl (.ld1 107 rfl tk25 rfl (cellsAt_one rfl rfl)) ?_
   refine VO.y rfl (.lenS rfl tsl25) ?_
   refine VO.as ?_
   refine VO.clsP 108 [107, 104, 105, 106] rfl (fun hg8 => (mkP_walWal (gd_, D_) br_ l_ es_ hg8 q3_0 q3_2 (OwnL.ow (Ow.ownl q3_3 rfl mnil) rfl))) (fun mc8 ho8 => ?_)
   refine VO.kp [108, 0] [(108, mc8), (0, mout (wm W) (m0))] ?_
   refine VO.k3 0 2 4 (VC.ret ?_)
   refine ⟨_, _, res_run (rs := [.tmp 2]) rfl (.tmp rfl .nil), fun W_ hI => out_of (l := [mc8]) hI [108] rfl rfl (mle_refl _) (fun hS_ => ?_)⟩
   dsimp only [packV]
   have hm0_ : (((gd_, D_), br_, l_, es_) : DwalWal) = ((gd_, D_), br_, l_, es_) := by first | rfl | (simp [*]; done)
   refine ⟨?_, ?_⟩
   rotate_left
   · rw [hm0_]; exact (Ow.up ho8 (hS_.1 _ (.head _)))
   all_goals (first | rfl | (simp [*]; done))
theorem wEpoch_ok (W : World) {es_ : List Int} {l_ : List DCommit} {br_ : Bool} {D_ : DdiskDisk} {gd_ : Nat} {m0 : Mem} (hm : mle (m0) (wm W)) {g0 : Nat} (h0 : Ow (.ptr TwalWal) m0 [.pointer (some ⟨g0, 0, none⟩)] (g0, ((gd_, D_), br_, l_, es_))) : CallR Try.prog 20 [.pointer (some ⟨g0, 0, none⟩)] W (m0) (fun v m' => v = .int .i64 (lastOr 0 l_) ∧ Ow (.ptr TwalWal) m' [.pointer (some ⟨g0, 0, none⟩)] (g0, ((gd_, D_), br_, l_, es_))) := by
 refine CallR.ofB (n := 19) hm Try.func20 rfl rfl rfl ?_
 refine VC.rs (VO.as (VO.k2 0 2 (VC.seq (VC.rs (VO.mv ?_)))))
 refine VO.call 1 rfl fnOk31 rfl rfl (fun W hW => wEnd_ok W (hW.at (i := 1) rfl) h0) (fun v1 m1 hv1 => ?_)
 try dsimp only at hv1
 obtain ⟨rfl, w1_0⟩ := hv1
 refine VO.y rfl (.eql rfl rfl) (VO.k3 0 2 5 ?_)
 refine VC.cond rfl (fun hc2 => ?_) (fun hc2 => ?_)
 · refine VC.rs (VO.as ?_)
   refine VO.kp [1, 0] [(1, m1), (0, mout (wm W) (m0))] ?_
   refine VO.k3 0 2 5 (VC.ret (outR ?_))
   refine ⟨_, _, res_run (rs := [.tmp 2]) rfl (.tmp rfl .nil), fun W_ hI => out_of (l := [m1]) hI [1] rfl rfl (mle_refl _) (fun hS_ => ?_)⟩
   dsimp only [packV]
   have hm0_ : (((gd_, D_), br_, l_, es_) : DwalWal) = ((gd_, D_), br_, l_, es_) := by first | rfl | (simp [*]; done)
   refine ⟨?_, ?_⟩
   rotate_left
   · rw [hm0_]; exact (Ow.up w1_0 (hS_.1 _ (.head _)))
   all_goals (first | rfl | (first | exact congrArg (Value.int _) (lastOr_at ‹l_[_]? = some _› (by omega)).symm | exact congrArg (Value.int _) (lastOr_nil (by omega)).symm))
 · refine VC.skip (outN (VC.seq ?_))
   obtain ⟨q3_E, q3_A2, q3_c2, q3_A3, q3_c3, q3_n0, q3_n2, q3_n3, _, q3_S, q3_0, q3_2, q3_3⟩ := openP_walWal (x0 := (gd_, D_)) (x1 := br_) (x2 := l_) (x3 := es_) w1_0
   dsimp only at q3_0
   have q3_r2 := q3_2.rm
   have q3_r3 := q3_3.rm
   refine VC.inv _ (fun _ h => h.parts (i := 1) rfl q3_S [107, 104, 105, 106]) ?_
   refine VC.regD _ 10 [(0, true), (1, true), (2, true), (3, true), (4, true), (5, true), (6, true), (7, true), (8, true), (9, true)] follows (by kernel_rfl) (fun _ h => h.sub [107, 104, 105, 106, 0]) ?_
   refine VD.y rfl rfl (.inl rfl) (.mv rfl) (VD.y rfl rfl (.inl rfl) (.nilp rfl) (VD.y rfl rfl (.inl rfl) (.fa rfl tst58 rfl) (VD.y rfl rfl (.inl rfl) (.ld1 107 rfl tk25 rfl (cellsAt_one rfl rfl)) (VD.y rfl rfl (.inl rfl) (.mv rfl) (VD.y rfl rfl (.inl rfl) (.nilp rfl) (VD.y rfl rfl (.inl rfl) (.fa rfl tst58 rfl) (VD.y rfl rfl (.inl rfl) (.ld1 107 rfl tk25 rfl (cellsAt_one rfl rfl)) ?_)))))))
   refine VD.y rfl rfl (.inl rfl) (.lenS rfl tsl25) ?_
   refine VD.y rfl rfl (.inl rfl) (.sub rfl rfl rfl ⟨bd, bd⟩) ?_
   refine VD.nil rfl ?_ rfl
   obtain ⟨x8, hx8⟩ : ∃ z_, (l_)[(((l_.length : Nat) : Int) - 1).toNat]? = some z_ := ⟨_, List.getElem?_eq_getElem bd⟩
   obtain ⟨gg8, oo8, ec8, ea8, hce8, hre8⟩ := (Ow.rd q3_2 (mle_refl _)).elem hx8
   cases ea8
   obtain ⟨q8_A2, q8_c2, rfl, q8_0, q8_1, q8_2⟩ := open_Commit (x0 := x8.1) (x1 := x8.2.1) (x2 := x8.2.2) hre8
   simp only [inK] at q8_0 q8_1
   have q8_r2 := Rd.room q8_2
   refine VO.y rfl (.ixI ((((l_.length : Nat) : Int) - 1).toNat) rfl rfl tsl25 bd bd) ?_
   refine VO.y rfl (.fa rfl tst42 rfl) ?_
   refine VO.y rfl (.ld1 105 rfl tk3 rfl (hce8.at1 (j := 0) rfl)) ?_
   refine VO.as ?_
   refine VO.clsP 109 [107, 104, 105, 106] rfl (fun hg9 => (mkP_walWal (gd_, D_) br_ l_ es_ hg9 q3_0 q3_2 (OwnL.ow (Ow.ownl q3_3 rfl mnil) rfl))) (fun mc9 ho9 => ?_)
   refine VO.kp [109, 0] [(109, mc9), (0, mout (wm W) (m0))] ?_
   refine VO.k3 0 2 5 (outN (VC.ret ?_))
   refine ⟨_, _, res_run (rs := [.tmp 2]) rfl (.tmp rfl .nil), fun W_ hI => out_of (l := [mc9]) hI [109] rfl rfl (mle_refl _) (fun hS_ => ?_)⟩
   dsimp only [packV]
   have hm0_ : (((gd_, D_), br_, l_, es_) : DwalWal) = ((gd_, D_), br_, l_, es_) := by first | rfl | (simp [*]; done)
   refine ⟨?_, ?_⟩
   rotate_left
   · rw [hm0_]; exact (Ow.up ho9 (hS_.1 _ (.head _)))
   all_goals (first | rfl | (first | exact congrArg (Value.int _) (lastOr_at ‹l_[_]? = some _› (by omega)).symm | exact congrArg (Value.int _) (lastOr_nil (by omega)).symm))
theorem wLen_ok (W : World) {es_ : List Int} {l_ : List DCommit} {br_ : Bool} {D_ : DdiskDisk} {gd_ : Nat} {m0 : Mem} (hm : mle (m0) (wm W)) {g0 : Nat} (h0 : Ow (.ptr TwalWal) m0 [.pointer (some ⟨g0, 0, none⟩)] (g0, ((gd_, D_), br_, l_, es_))) : CallR Try.prog 33 [.pointer (some ⟨g0, 0, none⟩)] W (m0) (fun v m' => v = .int .i64 (lenW es_) ∧ Ow (.ptr TwalWal) m' [.pointer (some ⟨g0, 0, none⟩)] (g0, ((gd_, D_), br_, l_, es_))) := by
 refine CallR.ofB (n := 10) hm Try.func33 rfl rfl rfl ?_
 refine VC.rs (VO.as (VO.k2 0 2 (VC.seq (VC.rs (VO.mv ?_)))))
 refine VO.call 1 rfl fnOk64 rfl rfl (fun W hW => wNone_ok W (hW.at (i := 1) rfl) h0) (fun v1 m1 hv1 => ?_)
 try dsimp only at hv1
 obtain ⟨rfl, w1_0⟩ := hv1
 refine VO.k3 0 2 4 ?_
 refine VC.cond rfl (fun hc2 => ?_) (fun hc2 => ?_)
 exact hc2.elim
 · refine VC.skip (outN (VC.rs (VO.mv (VO.y rfl (.nilp rfl) (VO.y rfl (.fa rfl tst58 rfl) ?_)))))
   obtain ⟨q3_E, q3_A2, q3_c2, q3_A3, q3_c3, q3_n0, q3_n2, q3_n3, _, q3_S, q3_0, q3_2, q3_3⟩ := openP_walWal (x0 := (gd_, D_)) (x1 := br_) (x2 := l_) (x3 := es_) w1_0
   dsimp only at q3_0
   have q3_r2 := q3_2.rm
   have q3_r3 := q3_3.rm
   refine VO.inv _ (fun _ h => h.parts (i := 1) rfl q3_S [107, 104, 105, 106]) ?_
   refine VO.y rfl (.ld1 107 rfl tk56 rfl (cellsAt_one rfl rfl)) ?_
   refine VO.callN 108 rfl fnOk41 rfl (fun W hW => wLength_ok W (OwnL.rd (Ow.ownl q3_3 rfl mnil) (hW.at (i := 106) rfl) (mle_nil _))) (fun v8 m8 hv8 => ?_)
   subst hv8
   refine VO.as ?_
   refine VO.clsP 109 [107, 104, 105, 106] rfl (fun hg9 => (mkP_walWal (gd_, D_) br_ l_ es_ hg9 q3_0 q3_2 (OwnL.ow (Ow.ownl q3_3 rfl mnil) rfl))) (fun mc9 ho9 => ?_)
   refine VO.kp [109, 0] [(109, mc9), (0, mout (wm W) (m0))] ?_
   refine VO.k3 0 2 4 (VC.ret ?_)
   refine ⟨_, _, res_run (rs := [.tmp 2]) rfl (.tmp rfl .nil), fun W_ hI => out_of (l := [mc9]) hI [109] rfl rfl (mle_refl _) (fun hS_ => ?_)⟩
   dsimp only [packV]
   have hm0_ : (((gd_, D_), br_, l_, es_) : DwalWal) = ((gd_, D_), br_, l_, es_) := by first | rfl | (simp [*]; done)
   refine ⟨?_, ?_⟩
   rotate_left
   · rw [hm0_]; exact (Ow.up ho9 (hS_.1 _ (.head _)))
   all_goals (first | rfl | (simp [*]; done))
theorem wTried_ok (W : World) {es_ : List Int} {l_ : List DCommit} {br_ : Bool} {D_ : DdiskDisk} {gd_ : Nat} {m0 : Mem} (hm : mle (m0) (wm W)) {g0 : Nat} (h0 : Ow (.ptr TwalWal) m0 [.pointer (some ⟨g0, 0, none⟩)] (g0, ((gd_, D_), br_, l_, es_))) (d1 : Int) (h1 : inK .i64 d1) : CallR Try.prog 56 [.pointer (some ⟨g0, 0, none⟩), .int .i64 d1] W (m0) (fun v m' => v = .int .i64 (d1) ∧ Ow (.ptr TwalWal) m' [.pointer (some ⟨g0, 0, none⟩)] (g0, ((gd_, D_), br_ || decide (¬ d1 = 0), l_, es_))) := by
 have h1' := h1; simp only [inK] at h1'
 refine CallR.ofB (n := 11) hm Try.func56 rfl rfl rfl ?_
 refine VC.rs (VO.as (VO.k3 0 1 4 (VC.seq (VC.rs (VO.mv (VO.y rfl (.neq rfl rfl) (VO.k4 0 1 4 6 ?_)))))))
 refine VC.cond rfl (fun hc1 => ?_) (fun hc1 => ?_)
 · refine VC.reg ?_
   refine VO.mv (VO.y rfl (.nilp rfl) (VO.y rfl (.fa rfl tst58 rfl) ?_))
   obtain ⟨q2_E, q2_A2, q2_c2, q2_A3, q2_c3, q2_n0, q2_n2, q2_n3, _, q2_S, q2_0, q2_2, q2_3⟩ := openP_walWal (x0 := (gd_, D_)) (x1 := br_) (x2 := l_) (x3 := es_) h0
   dsimp only at q2_0
   have q2_r2 := q2_2.rm
   have q2_r3 := q2_3.rm
   refine VO.inv _ (fun _ h => h.parts (i := 1) rfl q2_S [106, 103, 104, 105]) ?_
   refine VO.store (k := 1) (c' := [Value.pointer (some ⟨gd_, 0, none⟩), Value.bool true, Value.slice q2_A2 (l_.length) (q2_c2), Value.slice q2_A3 (es_.length) (q2_c3)]) 106 rfl rfl (.inr ⟨tk4, rfl⟩) rfl rfl rfl rfl rfl ?_
   refine VO.clsP 107 [106, 103, 104, 105] rfl (fun hg7 => (mkP_walWal (gd_, D_) true l_ es_ hg7 q2_0 q2_2 (OwnL.ow (Ow.ownl q2_3 rfl mnil) rfl))) (fun mc7 ho7 => ?_)
   refine VO.kp [107, 0] [(107, mc7), (0, mout (wm W) (m0))] ?_
   refine VO.k4 0 1 4 6 (outN (VC.rs (VO.mv (VO.as (VO.k4 0 1 4 6 (VC.ret ?_))))))
   refine ⟨_, _, res_run (rs := [.tmp 4]) rfl (.tmp rfl .nil), fun W_ hI => out_of (l := [mc7]) hI [107] rfl rfl (mle_refl _) (fun hS_ => ?_)⟩
   dsimp only [packV]
   have hm0_ : (((gd_, D_), br_ || decide (¬ d1 = 0), l_, es_) : DwalWal) = ((gd_, D_), true, l_, es_) := by first | rfl | (simp [*]; done)
   refine ⟨?_, ?_⟩
   rotate_left
   · rw [hm0_]; exact (Ow.up ho7 (hS_.1 _ (.head _)))
   all_goals (first | rfl | (simp [*]; done))
 · refine VC.skip (outN (VC.rs (VO.mv (VO.as ?_))))
   refine VO.kp [0, 1] [(0, mout (wm W) (m0)), (1, m0)] ?_
   refine VO.k4 0 1 4 6 (VC.ret ?_)
   refine ⟨_, _, res_run (rs := [.tmp 4]) rfl (.tmp rfl .nil), fun W_ hI => out_of (l := [m0]) hI [1] rfl rfl (mle_refl _) (fun hS_ => ?_)⟩
   dsimp only [packV]
   have hm0_ : (((gd_, D_), br_ || decide (¬ d1 = 0), l_, es_) : DwalWal) = ((gd_, D_), br_, l_, es_) := by first | rfl | (simp [*]; done)
   refine ⟨?_, ?_⟩
   rotate_left
   · rw [hm0_]; exact (Ow.up h0 (hS_.1 _ (.head _)))
   all_goals (first | rfl | (simp [*]; done))
theorem wWrong_ok (W : World) {es_ : List Int} {l_ : List DCommit} {br_ : Bool} {D_ : DdiskDisk} {gd_ : Nat} {m0 : Mem} (hm : mle (m0) (wm W)) {g0 : Nat} (h0 : Ow (.ptr TwalWal) m0 [.pointer (some ⟨g0, 0, none⟩)] (g0, ((gd_, D_), br_, l_, es_))) : CallR Try.prog 52 [.pointer (some ⟨g0, 0, none⟩)] W (m0) (fun v m' => v = .int .i64 (wWrong D_ br_) ∧ Ow (.ptr TwalWal) m' [.pointer (some ⟨g0, 0, none⟩)] (g0, ((gd_, D_), decide (¬ wWrong D_ br_ = 0), l_, es_))) := by
 refine CallR.ofB (n := 20) hm Try.func52 rfl rfl rfl ?_
 refine VC.rs (VO.as (VO.k2 0 2 (VC.seq (VC.rs (VO.mv ?_)))))
 refine VO.call 1 rfl fnOk64 rfl rfl (fun W hW => wNone_ok W (hW.at (i := 1) rfl) h0) (fun v1 m1 hv1 => ?_)
 try dsimp only at hv1
 obtain ⟨rfl, w1_0⟩ := hv1
 refine VO.k3 0 2 4 ?_
 refine VC.cond rfl (fun hc2 => ?_) (fun hc2 => ?_)
 exact hc2.elim
 refine VC.skip (outN (VC.seq (VC.rs (VO.mv (VO.y rfl (.nilp rfl) (VO.y rfl (.fa rfl tst58 rfl) ?_))))))
 obtain ⟨q3_E, q3_A2, q3_c2, q3_A3, q3_c3, q3_n0, q3_n2, q3_n3, _, q3_S, q3_0, q3_2, q3_3⟩ := openP_walWal (x0 := (gd_, D_)) (x1 := br_) (x2 := l_) (x3 := es_) w1_0
 dsimp only at q3_0
 have q3_r2 := q3_2.rm
 have q3_r3 := q3_3.rm
 refine VO.inv _ (fun _ h => h.parts (i := 1) rfl q3_S [107, 104, 105, 106]) ?_
 refine VO.y rfl (.ld1 107 rfl tk4 rfl (cellsAt_one rfl rfl)) (VO.mv ?_)
 refine VO.decB (t := 9) rfl (fun hc8 => ?_) (fun hc8 => ?_)
 · refine VO.gN (VO.gN (VO.gN (VO.gN (VO.gN (VO.gN (VO.y rfl (.pT rfl rfl) ?_))))))
   refine VO.clsP 109 [107, 104, 105, 106] rfl (fun hg9 => (mkP_walWal (gd_, D_) br_ l_ es_ hg9 q3_0 q3_2 (OwnL.ow (Ow.ownl q3_3 rfl mnil) rfl))) (fun mc9 ho9 => ?_)
   refine VO.kp [109, 0] [(109, mc9), (0, mout (wm W) (m0))] ?_
   refine VO.k4 0 2 4 16 (VC.condT rfl (VC.rs (VO.mv (VO.y rfl (.nilp rfl) (VO.y rfl (.fa rfl tst58 rfl) ?_)))))
   obtain ⟨q10_E, q10_A2, q10_c2, q10_A3, q10_c3, q10_n0, q10_n2, q10_n3, _, q10_S, q10_0, q10_2, q10_3⟩ := openP_walWal (x0 := (gd_, D_)) (x1 := br_) (x2 := l_) (x3 := es_) ho9
   dsimp only at q10_0
   have q10_r2 := q10_2.rm
   have q10_r3 := q10_3.rm
   refine VO.inv _ (fun _ h => h.parts (i := 109) rfl q10_S [114, 111, 112, 113]) ?_
   refine VO.store (k := 1) (c' := [Value.pointer (some ⟨gd_, 0, none⟩), Value.bool true, Value.slice q10_A2 (l_.length) (q10_c2), Value.slice q10_A3 (es_.length) (q10_c3)]) 114 rfl rfl (.inr ⟨tk4, rfl⟩) rfl rfl rfl rfl rfl ?_
   refine VO.clsP 115 [114, 111, 112, 113] rfl (fun hg15 => (mkP_walWal (gd_, D_) true l_ es_ hg15 q10_0 q10_2 (OwnL.ow (Ow.ownl q10_3 rfl mnil) rfl))) (fun mc15 ho15 => ?_)
   refine VO.k4 0 2 4 16 (VC.rs (VO.as (VO.k4 0 2 4 16 (VC.ret (outR ?_)))))
   refine ⟨_, _, res_run (rs := [.tmp 2]) rfl (.tmp rfl .nil), fun W_ hI => out_of (l := [mc15]) hI [115] rfl rfl (mle_refl _) (fun hS_ => ?_)⟩
   dsimp only [packV]
   have hm0_ : (((gd_, D_), decide (¬ wWrong D_ br_ = 0), l_, es_) : DwalWal) = ((gd_, D_), true, l_, es_) := by first | rfl | (simp [wWrong, onD, *]; done)
   refine ⟨?_, ?_⟩
   rotate_left
   · rw [hm0_]; exact (Ow.up ho15 (hS_.1 _ (.head _)))
   all_goals (first | rfl | (simp [wWrong, onD, *]; done))
 refine VO.gy rfl ⟨_, rfl, rfl⟩ (.mv rfl) (VO.gy rfl ⟨_, rfl, rfl⟩ (.nilp rfl) ?_)
 refine VO.gy rfl ⟨_, rfl, rfl⟩ (.fa rfl tst58 rfl) ?_
 refine VO.gy rfl ⟨_, rfl, rfl⟩ (.ld1 107 rfl tk37 rfl (cellsAt_one rfl rfl)) ?_
 refine VO.gcall 104 rfl ⟨_, rfl, rfl⟩ fnOk26 rfl rfl (fun W hW => dOn_ok W (hW.at (i := 104) rfl) q3_0) (fun v16 m16 hv16 => ?_)
 obtain ⟨rfl, w16_0⟩ := hv16
 refine VO.gy rfl ⟨_, rfl, rfl⟩ (.notD rfl) (VO.y rfl (.pF rfl rfl) ?_)
 refine VO.clsP 117 [107, 104, 105, 106] rfl (fun hg17 => (mkP_walWal (gd_, D_) br_ l_ es_ hg17 w16_0 q3_2 (OwnL.ow (Ow.ownl q3_3 rfl mnil) rfl))) (fun mc17 ho17 => ?_)
 refine VO.kp [117, 0] [(117, mc17), (0, mout (wm W) (m0))] ?_
 refine VO.k4 0 2 4 16 ?_
 refine VC.cond rfl (fun hc18 => ?_) (fun hc18 => ?_)
 · refine VC.rs (VO.mv (VO.y rfl (.nilp rfl) (VO.y rfl (.fa rfl tst58 rfl) ?_)))
   obtain ⟨q19_E, q19_A2, q19_c2, q19_A3, q19_c3, q19_n0, q19_n2, q19_n3, _, q19_S, q19_0, q19_2, q19_3⟩ := openP_walWal (x0 := (gd_, D_)) (x1 := br_) (x2 := l_) (x3 := es_) ho17
   dsimp only at q19_0
   have q19_r2 := q19_2.rm
   have q19_r3 := q19_3.rm
   refine VO.inv _ (fun _ h => h.parts (i := 117) rfl q19_S [123, 120, 121, 122]) ?_
   refine VO.store (k := 1) (c' := [Value.pointer (some ⟨gd_, 0, none⟩), Value.bool true, Value.slice q19_A2 (l_.length) (q19_c2), Value.slice q19_A3 (es_.length) (q19_c3)]) 123 rfl rfl (.inr ⟨tk4, rfl⟩) rfl rfl rfl rfl rfl ?_
   refine VO.clsP 124 [123, 120, 121, 122] rfl (fun hg24 => (mkP_walWal (gd_, D_) true l_ es_ hg24 q19_0 q19_2 (OwnL.ow (Ow.ownl q19_3 rfl mnil) rfl))) (fun mc24 ho24 => ?_)
   refine VO.k4 0 2 4 16 (VC.rs (VO.as (VO.k4 0 2 4 16 (VC.ret (outR ?_)))))
   refine ⟨_, _, res_run (rs := [.tmp 2]) rfl (.tmp rfl .nil), fun W_ hI => out_of (l := [mc24]) hI [124] rfl rfl (mle_refl _) (fun hS_ => ?_)⟩
   dsimp only [packV]
   have hm0_ : (((gd_, D_), decide (¬ wWrong D_ br_ = 0), l_, es_) : DwalWal) = ((gd_, D_), true, l_, es_) := by first | rfl | (simp [wWrong, onD, *]; done)
   refine ⟨?_, ?_⟩
   rotate_left
   · rw [hm0_]; exact (Ow.up ho24 (hS_.1 _ (.head _)))
   all_goals (first | rfl | (simp [wWrong, onD, *]; done))
 · refine VC.skip (outN (VC.rs (VO.as (VO.k4 0 2 4 16 (VC.ret ?_)))))
   refine ⟨_, _, res_run (rs := [.tmp 2]) rfl (.tmp rfl .nil), fun W_ hI => out_of (l := [mc17]) hI [117] rfl rfl (mle_refl _) (fun hS_ => ?_)⟩
   dsimp only [packV]
   have hm0_ : (((gd_, D_), decide (¬ wWrong D_ br_ = 0), l_, es_) : DwalWal) = ((gd_, D_), br_, l_, es_) := by first | rfl | (simp [wWrong, onD, *]; done)
   refine ⟨?_, ?_⟩
   rotate_left
   · rw [hm0_]; exact (Ow.up ho17 (hS_.1 _ (.head _)))
   all_goals (first | rfl | (simp [wWrong, onD, *]; done))
theorem fin0_wApp_ok {P : Prop} (h : P := by first | (rw [app_bad1 (by assumption)] <;> first | rfl | (simp [*]; done) | (have h6_ := wrong_six (by assumption); simp [h6_, *]; done) | (simp_all; done)) | (rw [app_e2 (by assumption) (by assumption)] <;> first | rfl | (simp [*]; done) | (have h6_ := wrong_six (by assumption); simp [h6_, *]; done) | (simp_all; done)) | (rw [app_e3 (by assumption) (by assumption) (by assumption)] <;> first | rfl | (simp [*]; done) | (have h6_ := wrong_six (by assumption); simp [h6_, *]; done) | (simp_all; done)) | (rw [app_ego (by assumption) (by assumption) (by assumption), tried_bad (by assumption)] <;> first | rfl | (simp [*]; done) | (have h6_ := wrong_six (by assumption); simp [h6_, *]; done) | (simp_all; done)) | (rw [app_ego (by assumption) (by assumption) (by assumption), tried_good (by first | assumption | (simp [*]; done))] <;> first | rfl | (simp [*]; done) | (have h6_ := wrong_six (by assumption); simp [h6_, *]; done) | (simp_all; done)) | (rw [app_ego (by assumption) (by assumption) (by assumption), tried_good (by first | assumption | (simp [*]; done))]; dsimp only; rw [app_ends e3 (by assumption)] <;> first | rfl | (simp [*]; done))) : P := h
theorem fin1_wApp_ok {P : Prop} (h : P := by first | omega | (simp only [List.length_append, List.length_nil, List.length_cons, List.length_take, List.length_drop] at *; omega) | (have h_ := app_frl ‹¬ ¬ (cEncode d1).2 = 0›; have h2_ := app_ops ‹¬ ¬ (cEncode d1).2 = 0›; omega) | (have h_ := write_rng D_ 0 (fAppend [] (cEncode d1).1).1; omega)) : P := h
set_option maxHeartbeats 4000000 in
theorem wApp_ok (W : World) {es_ : List Int} {l_ : List DCommit} {br_ : Bool} {D_ : DdiskDisk} {gd_ : Nat} {m0 : Mem} (hm : mle (m0) (wm W)) {g0 : Nat} (h0 : Ow (.ptr TwalWal) m0 [.pointer (some ⟨g0, 0, none⟩)] (g0, ((gd_, D_), br_, l_, es_))) {v1 : List Value} {d1 : DCommit} (h1 : Rd TCommit (mout (wm W) (m0)) v1 d1) (e0 : okD D_) (e1 : wD D_ + 3000 ≤ 1000000000000) (e2 : okL l_) (e3 : es_ = endsC l_) : CallR Try.prog 17 [.pointer (some ⟨g0, 0, none⟩), .agg v1.toArray] W (m0) (fun v m' => v = .int .i64 ((wApp D_ br_ l_ d1).2) ∧ Ow (.ptr TwalWal) m' [.pointer (some ⟨g0, 0, none⟩)] (g0, ((gd_, (wApp D_ br_ l_ d1).1.1), (wApp D_ br_ l_ d1).1.2.1, (wApp D_ br_ l_ d1).1.2.2, endsC (wApp D_ br_ l_ d1).1.2.2))) := by
  have hll := okL_len e2; have hlf := okL_frames e2; have hel := endsC_len l_; rw [← e3] at hel; have hlr := lastOr_range e2; have hlw := lenW_ends l_; rw [← e3] at hlw
  obtain ⟨p1_A2, p1_c2, rfl, p1_0, p1_1, p1_2⟩ := open_Commit (x0 := d1.1) (x1 := d1.2.1) (x2 := d1.2.2) h1
  simp only [inK] at p1_0
  simp only [inK] at p1_1
  have p1_r2 := Rd.room p1_2
  refine CallR.ofB (n := 79) hm Try.func17 rfl rfl rfl ?_
  refine VC.rs ?_
  refine VO.box (cs := [Value.int .i64 (d1.1), Value.int .i64 (d1.2.1), Value.slice p1_A2 (d1.2.2.length) (p1_c2)]) 102 rfl rfl rfl (fun g1 => ?_)
  refine VO.as ?_
  refine VO.k4 0 1 3 4 ?_
  refine VC.seq ?_
  refine VC.rs ?_
  refine VO.mv ?_
  refine VO.call 1 rfl fnOk52 rfl rfl (fun W hW => wWrong_ok W (hW.at (i := 1) rfl) h0) (fun v3 m3 hv3 => ?_)
  try dsimp only at hv3
  obtain ⟨rfl, w3_0⟩ := hv3
  refine VO.as ?_
  refine VO.k5 0 1 3 4 5 ?_
  refine VC.rs ?_
  refine VO.mv ?_
  refine VO.y rfl (.neq rfl rfl) ?_
  refine VO.kp [1, 102, 0] [(1, m3), (102, mone g1 (.cells [Value.int .i64 (d1.1), Value.int .i64 (d1.2.1), Value.slice p1_A2 (d1.2.2.length) (p1_c2)].toArray 42 (0, 0))), (0, mout (wm W) (m0))] ?_
  refine VO.k6 0 1 3 4 5 13 ?_
  refine VC.cond rfl (fun hc4 => ?_) (fun hc4 => ?_)
  · -- T
    refine VC.rs ?_
    refine VO.mv ?_
    refine VO.as ?_
    refine VO.k6 0 1 3 4 5 13 ?_
    refine VC.ret ?_
    refine outR ?_
    refine ⟨_, _, res_run (rs := [.tmp 4]) rfl (.tmp rfl .nil), fun W_ hI => out_of (l := [m3]) hI [1] rfl rfl (mle_refl _) (fun hS_ => ?_)⟩
    dsimp only [packV]
    have hm0_ : (((gd_, (wApp D_ br_ l_ d1).1.1), (wApp D_ br_ l_ d1).1.2.1, (wApp D_ br_ l_ d1).1.2.2, endsC (wApp D_ br_ l_ d1).1.2.2) : DwalWal) = ((gd_, D_), decide (¬ wWrong D_ br_ = 0), l_, es_) := by first | rfl | (exact fin0_wApp_ok)
    refine ⟨?_, ?_⟩
    rotate_left
    · rw [hm0_]; exact (Ow.up w3_0 (hS_.1 _ (.head _)))
    all_goals (first | rfl | (exact fin0_wApp_ok))
  · -- F
    refine VC.skip ?_
    refine outN ?_
    refine VC.rs ?_
    refine VO.y rfl (.ldA 102 rfl tk42 rfl (cellsAt_one rfl rfl)) ?_
    refine VO.callN 105 rfl fnOk53 rfl (fun W hW => cEncode_ok_ W (Rd.mono h1 (hW.at (i := 0) rfl))) (fun v5 m5 hv5 => ?_)
    obtain ⟨s5_0, rfl, f5_0⟩ := hv5
    have hfa6 := cEncode_len d1
    obtain ⟨A5_0, c5_0, eq5_0, l5_0, k5_0⟩ := f5_0.slice
    subst eq5_0
    simp only [maxLen] at k5_0
    refine VO.mv ?_
    refine VO.y rfl (.ext rfl rfl) ?_
    refine VO.y rfl (.ext rfl rfl) ?_
    refine VO.as ?_
    refine VO.as ?_
    refine VO.k8 0 1 3 4 5 6 7 13 ?_
    refine VC.seq ?_
    refine VC.rs ?_
    refine VO.mv ?_
    refine VO.y rfl (.neq rfl rfl) ?_
    refine VO.k9 0 1 3 4 5 6 7 13 21 ?_
    refine VC.cond rfl (fun hc7 => ?_) (fun hc7 => ?_)
    · -- FT
      refine VC.rs ?_
      refine VO.mv ?_
      refine VO.as ?_
      refine VO.kp [105, 1, 102, 0] [(105, m5), (1, m3), (102, mone g1 (.cells [Value.int .i64 (d1.1), Value.int .i64 (d1.2.1), Value.slice p1_A2 (d1.2.2.length) (p1_c2)].toArray 42 (0, 0))), (0, mout (wm W) (m0))] ?_
      refine VO.k9 0 1 3 4 5 6 7 13 21 ?_
      refine VC.ret ?_
      refine outR ?_
      refine ⟨_, _, res_run (rs := [.tmp 4]) rfl (.tmp rfl .nil), fun W_ hI => out_of (l := [m3]) hI [1] rfl rfl (mle_refl _) (fun hS_ => ?_)⟩
      dsimp only [packV]
      have hm0_ : (((gd_, (wApp D_ br_ l_ d1).1.1), (wApp D_ br_ l_ d1).1.2.1, (wApp D_ br_ l_ d1).1.2.2, endsC (wApp D_ br_ l_ d1).1.2.2) : DwalWal) = ((gd_, D_), decide (¬ wWrong D_ br_ = 0), l_, es_) := by first | rfl | (exact fin0_wApp_ok)
      refine ⟨?_, ?_⟩
      rotate_left
      · rw [hm0_]; exact (Ow.up w3_0 (hS_.1 _ (.head _)))
      all_goals (first | rfl | (exact fin0_wApp_ok))
    · -- FF
      refine VC.skip ?_
      refine outN ?_
      refine VC.seq ?_
      refine VC.seq ?_
      refine VC.regE [(105, m5), (102, mone g1 (.cells [Value.int .i64 (d1.1), Value.int .i64 (d1.2.1), Value.slice p1_A2 (d1.2.2.length) (p1_c2)].toArray 42 (0, 0))), (0, mout (wm W) (m0))] 6 follows (by kernel_rfl) (fun _ h => h.sub [105, 102, 0]) ?_
      refine VE.y 0 rfl rfl (.inl rfl) (by kernel_rfl) (.mv rfl) ?_
      refine VE.y 2 rfl rfl (.inl rfl) (by kernel_rfl) (.mv rfl) ?_
      refine VE.y 4 rfl rfl (.inl rfl) (by kernel_rfl) (.ldA 102 rfl tk42 rfl (cellsAt_one rfl rfl)) ?_
      refine VE.tree [1, 5] (by kernel_rfl) ⟨?_, ?_, trivial⟩
      · -- FF0
        refine VI.call 1 rfl rfl (.inl rfl) fnOk20 rfl rfl (fun _ _ h => Inv.sbK [105, 102, 0] h) (fun W hW => wEpoch_ok W (hW.at (i := 1) rfl) w3_0) (fun v8 m8 hv8 => ?_)
        try dsimp only at hv8
        obtain ⟨rfl, w8_0⟩ := hv8
        refine VE.tree [3, 5] (by kernel_rfl) ⟨?_, ?_, trivial⟩
        · -- FF00
          refine VI.call 1 rfl rfl (.inl rfl) fnOk31 rfl rfl (fun _ _ h => Inv.sbK [105, 102, 0] h) (fun W hW => wEnd_ok W (hW.at (i := 1) rfl) w8_0) (fun v9 m9 hv9 => ?_)
          try dsimp only at hv9
          obtain ⟨rfl, w9_0⟩ := hv9
          refine VE.tree [5] (by kernel_rfl) ⟨?_, trivial⟩
          refine VI.bsl (cs := [Value.int .i64 (d1.1), Value.int .i64 (d1.2.1), Value.slice p1_A2 (d1.2.2.length) (p1_c2)]) 111 rfl rfl rfl tsl25 tz42 rfl rfl (fun _ h => Inv.sbK [105, 102, 0] h) (fun g10 => ?_)
          refine VE.nil (by kernel_rfl) rfl ?_ rfl
          have ho13 : OwnL TCommit (mone g10 (.cells [Value.int .i64 (d1.1), Value.int .i64 (d1.2.1), Value.slice p1_A2 (d1.2.2.length) (p1_c2)].toArray 42 (0, 0))) (mout (wm W) (m0)) (Value.slice (some ⟨g10, 0, none⟩) (1) (1)) [d1] := OwnL.lit 1 (All2c.cons (c1 := [Value.int .i64 (d1.1), Value.int .i64 (d1.2.1), Value.slice p1_A2 (d1.2.2.length) (p1_c2)]) (Rd.mono h1 (mle_refl _)) All2c.nil) rfl rfl
          refine VO.callN 112 rfl fnOk54 rfl (fun W hW => follows_ok W (lastOr 0 l_) (by simp only [inK]; (exact fin1_wApp_ok)) ((l_.length : Nat) : Int) (by simp only [inK]; (exact fin1_wApp_ok)) (OwnL.rd ho13 (hW.at (i := 111) rfl) (hW.at (i := 0) rfl))) (fun v12 m12 hv12 => ?_)
          obtain ⟨s12_0, rfl, f12_0⟩ := hv12
          obtain ⟨rfl, q12_0_0, q12_0_1⟩ := open_Fault (x0 := (cFollows (lastOr 0 l_) ((l_.length : Nat) : Int) ([d1])).1) (x1 := (cFollows (lastOr 0 l_) ((l_.length : Nat) : Int) ([d1])).2) (f12_0.rd (mle_refl _))
          simp only [inK] at q12_0_0
          simp only [inK] at q12_0_1
          refine VO.y rfl (.fld1 rfl tst69 rfl tfk69_0 rfl) ?_
          refine VO.y rfl (.neq rfl rfl) ?_
          refine VO.kp [1, 105, 102, 0] [(1, m9), (105, m5), (102, mone g1 (.cells [Value.int .i64 (d1.1), Value.int .i64 (d1.2.1), Value.slice p1_A2 (d1.2.2.length) (p1_c2)].toArray 42 (0, 0))), (0, mout (wm W) (m0))] ?_
          refine VO.k10 0 1 3 4 5 6 7 13 21 31 ?_
          refine outN ?_
          refine VC.cond rfl (fun hc14 => ?_) (fun hc14 => ?_)
          · -- FF00T
            refine VC.rs ?_
            refine VO.as ?_
            refine VO.k10 0 1 3 4 5 6 7 13 21 31 ?_
            refine VC.ret ?_
            refine outR ?_
            refine ⟨_, _, res_run (rs := [.tmp 4]) rfl (.tmp rfl .nil), fun W_ hI => out_of (l := [m9]) hI [1] rfl rfl (mle_refl _) (fun hS_ => ?_)⟩
            dsimp only [packV]
            have hm0_ : (((gd_, (wApp D_ br_ l_ d1).1.1), (wApp D_ br_ l_ d1).1.2.1, (wApp D_ br_ l_ d1).1.2.2, endsC (wApp D_ br_ l_ d1).1.2.2) : DwalWal) = ((gd_, D_), (decide (¬ wWrong D_ br_ = 0)), l_, es_) := by first | rfl | (exact fin0_wApp_ok)
            refine ⟨?_, ?_⟩
            rotate_left
            · rw [hm0_]; exact (Ow.up w9_0 (hS_.1 _ (.head _)))
            all_goals (first | rfl | (exact fin0_wApp_ok))
          · -- FF00F
            refine VC.skip ?_
            refine outN ?_
            refine VC.rs ?_
            refine VO.mv ?_
            refine VO.callN 115 rfl fnOk55 rfl (fun W hW => fAppend_ok W (Rd.nil _ _ none 0 (Nat.zero_le _)) (OwnL.rd (Ow.ownl f5_0 rfl mnil) (hW.at (i := 105) rfl) (mle_nil _)) (by exact fin1_wApp_ok)) (fun v15 m15 hv15 => ?_)
            obtain ⟨s15_0, rfl, f15_0⟩ := hv15
            have hfa16 := fAppend_len [] ((cEncode d1).1)
            have hfa17 := fAppend_range [] ((cEncode d1).1)
            obtain ⟨A15_0, c15_0, eq15_0, l15_0, k15_0⟩ := f15_0.slice
            subst eq15_0
            simp only [maxLen] at k15_0
            refine VO.mv ?_
            refine VO.y rfl (.ext rfl rfl) ?_
            refine VO.y rfl (.ext rfl rfl) ?_
            refine VO.as ?_
            refine VO.as ?_
            refine VO.k11 0 1 3 4 5 6 7 8 13 21 31 ?_
            refine VC.seq ?_
            refine VC.rs ?_
            refine VO.mv ?_
            refine VO.y rfl (.neq rfl rfl) ?_
            refine VO.k12 0 1 3 4 5 6 7 8 13 21 31 38 ?_
            refine VC.cond rfl (fun hc18 => ?_) (fun hc18 => ?_)
            · -- FF00FT
              exact absurd (by rw [app_fr (by assumption)]) hc18
            · -- FF00FF
              refine VC.skip ?_
              refine outN ?_
              refine VC.seq ?_
              refine VC.rs ?_
              refine VO.mv ?_
              refine VO.mv ?_
              refine VO.y rfl (.nilp rfl) ?_
              refine VO.y rfl (.fa rfl tst58 rfl) ?_
              obtain ⟨q19_E, q19_A2, q19_c2, q19_A3, q19_c3, q19_n0, q19_n2, q19_n3, _, q19_S, q19_0, q19_2, q19_3⟩ := openP_walWal (x0 := (gd_, D_)) (x1 := (decide (¬ wWrong D_ br_ = 0))) (x2 := l_) (x3 := es_) w9_0
              dsimp only at q19_0
              have q19_r2 := q19_2.rm
              have q19_r3 := q19_3.rm
              refine VO.inv _ (fun _ h => h.parts (i := 1) rfl q19_S [123, 120, 121, 122]) ?_
              refine VO.y rfl (.ld1 123 rfl tk37 rfl (cellsAt_one rfl rfl)) ?_
              refine VO.mv ?_
              refine VO.call 120 rfl fnOk57 rfl rfl (fun W hW => dWrite_ok W (hW.at (i := 120) rfl) q19_0 0 (by simp only [inK]; (exact fin1_wApp_ok)) (OwnL.rd (Ow.ownl f15_0 rfl mnil) (hW.out (i := 120) (j := 115) rfl rfl) (mle_nil _)) (by assumption) (by exact fin1_wApp_ok)) (fun v24 m24 hv24 => ?_)
              obtain ⟨rfl, w24_0⟩ := hv24
              have hfa25 := (write_ok (f := 0) (b := ((fAppend [] ((cEncode d1).1)).1)) (show okD D_ by assumption))
              have hfa26 := (write_w (f := 0) (b := ((fAppend [] ((cEncode d1).1)).1)) (show okD D_ by assumption))
              refine VO.clsP 128 [123, 120, 121, 122] rfl (fun hg28 => (mkP_walWal (gd_, (dWrite D_ 0 ((fAppend [] ((cEncode d1).1)).1)).1) (decide (¬ wWrong D_ br_ = 0)) l_ es_ hg28 w24_0 q19_2 (OwnL.ow (Ow.ownl q19_3 rfl mnil) rfl))) (fun mc28 ho28 => ?_)
              refine VO.call 128 rfl fnOk56 rfl rfl (fun W hW => wTried_ok W (hW.at (i := 128) rfl) ho28 ((dWrite D_ 0 ((fAppend [] ((cEncode d1).1)).1)).2) (by simp only [inK]; (exact fin1_wApp_ok))) (fun v27 m27 hv27 => ?_)
              try dsimp only at hv27
              obtain ⟨rfl, w27_0⟩ := hv27
              refine VO.as ?_
              refine VO.kp [128, 115, 105, 102, 0] [(128, m27), (115, m15), (105, m5), (102, mone g1 (.cells [Value.int .i64 (d1.1), Value.int .i64 (d1.2.1), Value.slice p1_A2 (d1.2.2.length) (p1_c2)].toArray 42 (0, 0))), (0, mout (wm W) (m0))] ?_
              refine VO.k13 0 1 3 4 5 6 7 8 9 13 21 31 38 ?_
              refine VC.rs ?_
              refine VO.mv ?_
              refine VO.y rfl (.neq rfl rfl) ?_
              refine VO.k14 0 1 3 4 5 6 7 8 9 13 21 31 38 49 ?_
              refine VC.cond rfl (fun hc29 => ?_) (fun hc29 => ?_)
              · -- FF00FFT
                refine VC.rs ?_
                refine VO.mv ?_
                refine VO.as ?_
                refine VO.k14 0 1 3 4 5 6 7 8 9 13 21 31 38 49 ?_
                refine VC.ret ?_
                refine outR ?_
                refine ⟨_, _, res_run (rs := [.tmp 4]) rfl (.tmp rfl .nil), fun W_ hI => out_of (l := [m27]) hI [128] rfl rfl (mle_refl _) (fun hS_ => ?_)⟩
                dsimp only [packV]
                have hm0_ : (((gd_, (wApp D_ br_ l_ d1).1.1), (wApp D_ br_ l_ d1).1.2.1, (wApp D_ br_ l_ d1).1.2.2, endsC (wApp D_ br_ l_ d1).1.2.2) : DwalWal) = ((gd_, ((dWrite D_ 0 ((fAppend [] ((cEncode d1).1)).1)).1)), (decide (¬ wWrong D_ br_ = 0)) || decide (¬ ((dWrite D_ 0 ((fAppend [] ((cEncode d1).1)).1)).2) = 0), l_, es_) := by first | rfl | (exact fin0_wApp_ok)
                refine ⟨?_, ?_⟩
                rotate_left
                · rw [hm0_]; exact (Ow.up w27_0 (hS_.1 _ (.head _)))
                all_goals (first | rfl | (exact fin0_wApp_ok))
              · -- FF00FFF
                refine VC.skip ?_
                refine outN ?_
                refine VC.seq ?_
                obtain ⟨q30_E, q30_A2, q30_c2, q30_A3, q30_c3, q30_n0, q30_n2, q30_n3, _, q30_S, q30_0, q30_2, q30_3⟩ := openP_walWal (x0 := (gd_, ((dWrite D_ 0 ((fAppend [] ((cEncode d1).1)).1)).1))) (x1 := (decide (¬ wWrong D_ br_ = 0)) || decide (¬ ((dWrite D_ 0 ((fAppend [] ((cEncode d1).1)).1)).2) = 0)) (x2 := l_) (x3 := es_) w27_0
                dsimp only at q30_0
                have q30_r2 := q30_2.rm
                have q30_r3 := q30_3.rm
                refine VC.inv _ (fun _ h => h.parts (i := 128) rfl q30_S [134, 131, 132, 133]) ?_
                refine VC.regD [(134, mone g0 (.cells [Value.pointer (some ⟨gd_, 0, none⟩), Value.bool ((decide (¬ wWrong D_ br_ = 0)) || decide (¬ ((dWrite D_ 0 ((fAppend [] ((cEncode d1).1)).1)).2) = 0)), Value.slice q30_A2 (l_.length) (q30_c2), Value.slice q30_A3 (es_.length) (q30_c3)].toArray q30_E (0, 0))), (131, q30_n0), (133, q30_n3), (115, m15), (105, m5), (102, mone g1 (.cells [Value.int .i64 (d1.1), Value.int .i64 (d1.2.1), Value.slice p1_A2 (d1.2.2.length) (p1_c2)].toArray 42 (0, 0))), (0, mout (wm W) (m0))] 9 [(0, true), (1, true), (2, true), (3, true), (4, true), (5, true), (6, false), (7, false), (8, false)] follows (by kernel_rfl) (fun _ h => h.sub [134, 131, 133, 115, 105, 102, 0]) ?_
                refine VD.y rfl rfl (.inl rfl) (.mv rfl) ?_
                refine VD.y rfl rfl (.inl rfl) (.mv rfl) ?_
                refine VD.y rfl rfl (.inl rfl) (.nilp rfl) ?_
                refine VD.y rfl rfl (.inl rfl) (.fa rfl tst58 rfl) ?_
                refine VD.y rfl rfl (.inl rfl) (.ld1 134 rfl tk25 rfl (cellsAt_one rfl rfl)) ?_
                refine VD.y rfl rfl (.inl rfl) (.ldA 102 rfl tk42 rfl (cellsAt_one rfl rfl)) ?_
                refine VD.callN 135 rfl rfl (.inl rfl) fnOk58 rfl (fun _ h => Inv.sbK [134, 131, 133, 115, 105, 102, 0] h) (fun W hW => cCopy_ok W (Rd.mono h1 (hW.at (i := 0) rfl)) (by exact fin1_wApp_ok)) (fun v35 m35 hv35 => ?_)
                obtain ⟨s35_0, rfl, f35_0⟩ := hv35
                obtain ⟨q35_0_A2, q35_0_c2, q35_0_n2, rfl, q35_0_S, q35_0_0, q35_0_1, q35_0_2⟩ := openO_Commit (x0 := d1.1) (x1 := d1.2.1) (x2 := d1.2.2) f35_0
                simp only [inK] at q35_0_0
                simp only [inK] at q35_0_1
                have q35_0_r2 := q35_0_2.rm
                refine VD.inv _ (fun _ h => h.parts (i := 135) rfl q35_0_S [136]) ?_
                refine VD.bsl (cs := [Value.int .i64 (d1.1), Value.int .i64 (d1.2.1), Value.slice q35_0_A2 (d1.2.2.length) (q35_0_c2)]) 138 rfl rfl rfl tsl25 tz42 rfl rfl (fun _ h => Inv.sbK [134, 131, 133, 115, 105, 102, 0] h) (fun g37 => ?_)
                refine VD.appO (e := TCommit) 132 136 138 rfl rfl rfl rfl tsl25 tz42 rfl rfl rfl rfl q30_2 (show Ow TCommit _ _ d1 from (mkO_Commit d1.1 d1.2.1 d1.2.2 (Seps.one (mle_refl _)) (by simp only [inK]; (exact fin1_wApp_ok)) (by simp only [inK]; (exact fin1_wApp_ok)) (OwnL.ow (Ow.ownl q35_0_2 rfl mnil) rfl))) Try.underlying25 (cellsAt_one rfl rfl) (by simp only [maxLen]; (exact fin1_wApp_ok)) (by exact fin1_wApp_ok) (by decide) (fun _ _ h => Inv.sbK [134, 131, 133, 115, 105, 102, 0] h) (fun v39 m39 ho39 => ?_)
                obtain ⟨A39, c39, rfl, l39, k39⟩ := ho39.slice
                simp only [maxLen] at k39
                refine VD.nil rfl ?_ rfl
                refine VO.y rfl (.nilp rfl) ?_
                refine VO.y rfl (.fa rfl tst58 rfl) ?_
                refine VO.store (k := 1) (c' := [Value.pointer (some ⟨gd_, 0, none⟩), Value.bool ((decide (¬ wWrong D_ br_ = 0)) || decide (¬ ((dWrite D_ 0 ((fAppend [] ((cEncode d1).1)).1)).2) = 0)), Value.slice A39 ((l_ ++ [d1]).length) (c39), Value.slice q30_A3 (es_.length) (q30_c3)]) 134 rfl rfl (.inr ⟨tk25, rfl⟩) rfl rfl rfl rfl rfl ?_
                refine VO.clsP 140 [134, 131, 132, 133] rfl (fun hg40 => (mkP_walWal (gd_, ((dWrite D_ 0 ((fAppend [] ((cEncode d1).1)).1)).1)) ((decide (¬ wWrong D_ br_ = 0)) || decide (¬ ((dWrite D_ 0 ((fAppend [] ((cEncode d1).1)).1)).2) = 0)) (l_ ++ [d1]) es_ hg40 q30_0 ho39 (OwnL.ow (Ow.ownl q30_3 rfl mnil) rfl))) (fun mc40 ho40 => ?_)
                refine VO.k14 0 1 3 4 5 6 7 8 9 13 21 31 38 49 ?_
                refine outN ?_
                refine VC.seq ?_
                obtain ⟨q41_E, q41_A2, q41_c2, q41_A3, q41_c3, q41_n0, q41_n2, q41_n3, _, q41_S, q41_0, q41_2, q41_3⟩ := openP_walWal (x0 := (gd_, ((dWrite D_ 0 ((fAppend [] ((cEncode d1).1)).1)).1))) (x1 := (decide (¬ wWrong D_ br_ = 0)) || decide (¬ ((dWrite D_ 0 ((fAppend [] ((cEncode d1).1)).1)).2) = 0)) (x2 := l_ ++ [d1]) (x3 := es_) ho40
                dsimp only at q41_0
                have q41_r2 := q41_2.rm
                have q41_r3 := q41_3.rm
                refine VC.inv _ (fun _ h => h.parts (i := 140) rfl q41_S [145, 142, 143, 144]) ?_
                refine VC.regD [(145, mone g0 (.cells [Value.pointer (some ⟨gd_, 0, none⟩), Value.bool ((decide (¬ wWrong D_ br_ = 0)) || decide (¬ ((dWrite D_ 0 ((fAppend [] ((cEncode d1).1)).1)).2) = 0)), Value.slice q41_A2 ((l_ ++ [d1]).length) (q41_c2), Value.slice q41_A3 (es_.length) (q41_c3)].toArray q41_E (0, 0))), (142, q41_n0), (143, q41_n2), (138, mone g37 (.cells [Value.int .i64 (d1.1), Value.int .i64 (d1.2.1), Value.slice q35_0_A2 (d1.2.2.length) (q35_0_c2)].toArray 42 (0, 0))), (115, m15), (105, m5), (102, mone g1 (.cells [Value.int .i64 (d1.1), Value.int .i64 (d1.2.1), Value.slice p1_A2 (d1.2.2.length) (p1_c2)].toArray 42 (0, 0))), (0, mout (wm W) (m0))] 15 [(0, true), (1, true), (2, true), (3, true), (4, true), (5, true), (6, true), (7, true), (8, true), (10, true), (11, true), (9, false), (12, true), (13, false), (14, false)] follows (by kernel_rfl) (fun _ h => h.sub [145, 142, 143, 138, 115, 105, 102, 0]) ?_
                refine VD.y rfl rfl (.inl rfl) (.mv rfl) ?_
                refine VD.y rfl rfl (.inl rfl) (.mv rfl) ?_
                refine VD.y rfl rfl (.inl rfl) (.nilp rfl) ?_
                refine VD.y rfl rfl (.inl rfl) (.fa rfl tst58 rfl) ?_
                refine VD.y rfl rfl (.inl rfl) (.ld1 145 rfl tk56 rfl (cellsAt_one rfl rfl)) ?_
                refine VD.y rfl rfl (.inl rfl) (.mv rfl) ?_
                refine VD.y rfl rfl (.inl rfl) (.nilp rfl) ?_
                refine VD.y rfl rfl (.inl rfl) (.fa rfl tst58 rfl) ?_
                refine VD.y rfl rfl (.inl rfl) (.ld1 145 rfl tk56 rfl (cellsAt_one rfl rfl)) ?_
                refine VD.y rfl rfl (.inl rfl) (.mv rfl) ?_
                refine VD.y rfl rfl (.inl rfl) (.lenS rfl tsl22) ?_
                refine VD.callN 146 rfl rfl (.inl rfl) fnOk41 rfl (fun _ h => Inv.sbK [145, 142, 143, 138, 115, 105, 102, 0] h) (fun W hW => wLength_ok W (OwnL.rd (Ow.ownl q41_3 rfl mnil) (hW.at (i := 144) rfl) (mle_nil _))) (fun v46 m46 hv46 => ?_)
                subst hv46
                refine VD.y rfl rfl (.inl rfl) (.add rfl rfl rfl ⟨by exact fin1_wApp_ok, by exact fin1_wApp_ok⟩) ?_
                refine VD.bsl (cs := [Value.int .i64 ((lenW es_) + ((((fAppend [] ((cEncode d1).1)).1).length : Nat) : Int))]) 148 rfl rfl rfl tsl56 tz3 rfl rfl (fun _ h => Inv.sbK [145, 142, 143, 138, 115, 105, 102, 0] h) (fun g47 => ?_)
                obtain ⟨mo49, cs49, hM49, hA49, hC49⟩ := (Ow.ownl q41_3 rfl mnil)
                refine VD.app 144 rfl rfl rfl rfl tsl56 tz3 rfl rfl hM49 hA49 (.row 148 _ _ _ 1 1 _ _ Try.underlying56 rfl (cellsAt_one rfl rfl)) (by simp [Value.oneCell']) (by simp only [maxLen]; (exact fin1_wApp_ok)) (by exact fin1_wApp_ok) (by decide) (fun _ _ h => Inv.sbK [145, 142, 143, 138, 115, 105, 102, 0] h) (fun v49 m49 hN49 => ?_)
                have ho49 : OwnL (.int .i64) m49 mnil v49 (es_ ++ [((lenW es_) + ((((fAppend [] ((cEncode d1).1)).1).length : Nat) : Int))]) := OwnL.one hC49 hN49 (show Rd (.int .i64) _ [_] _ from ⟨rfl, by simp only [inK]; (exact fin1_wApp_ok)⟩)
                obtain ⟨A49, c49, rfl, l49, k49⟩ := ho49.slice
                simp only [maxLen] at k49
                refine VD.nil rfl ?_ rfl
                refine VO.y rfl (.nilp rfl) ?_
                refine VO.y rfl (.fa rfl tst58 rfl) ?_
                refine VO.store (k := 1) (c' := [Value.pointer (some ⟨gd_, 0, none⟩), Value.bool ((decide (¬ wWrong D_ br_ = 0)) || decide (¬ ((dWrite D_ 0 ((fAppend [] ((cEncode d1).1)).1)).2) = 0)), Value.slice q41_A2 ((l_ ++ [d1]).length) (q41_c2), Value.slice A49 ((es_ ++ [((lenW es_) + ((((fAppend [] ((cEncode d1).1)).1).length : Nat) : Int))]).length) (c49)]) 145 rfl rfl (.inr ⟨tk56, rfl⟩) rfl rfl rfl rfl rfl ?_
                refine VO.clsP 150 [145, 142, 143, 144] rfl (fun hg50 => (mkP_walWal (gd_, ((dWrite D_ 0 ((fAppend [] ((cEncode d1).1)).1)).1)) ((decide (¬ wWrong D_ br_ = 0)) || decide (¬ ((dWrite D_ 0 ((fAppend [] ((cEncode d1).1)).1)).2) = 0)) (l_ ++ [d1]) (es_ ++ [((lenW es_) + ((((fAppend [] ((cEncode d1).1)).1).length : Nat) : Int))]) hg50 q41_0 q41_2 (OwnL.ow ho49 rfl))) (fun mc50 ho50 => ?_)
                refine VO.kp [150, 115, 105, 102, 0] [(150, mc50), (115, m15), (105, m5), (102, mone g1 (.cells [Value.int .i64 (d1.1), Value.int .i64 (d1.2.1), Value.slice p1_A2 (d1.2.2.length) (p1_c2)].toArray 42 (0, 0))), (0, mout (wm W) (m0))] ?_
                refine VO.k14 0 1 3 4 5 6 7 8 9 13 21 31 38 49 ?_
                refine outN ?_
                refine VC.rs ?_
                refine VO.as ?_
                refine VO.k14 0 1 3 4 5 6 7 8 9 13 21 31 38 49 ?_
                refine VC.ret ?_
                refine ⟨_, _, res_run (rs := [.tmp 4]) rfl (.tmp rfl .nil), fun W_ hI => out_of (l := [mc50]) hI [150] rfl rfl (mle_refl _) (fun hS_ => ?_)⟩
                dsimp only [packV]
                have hm0_ : (((gd_, (wApp D_ br_ l_ d1).1.1), (wApp D_ br_ l_ d1).1.2.1, (wApp D_ br_ l_ d1).1.2.2, endsC (wApp D_ br_ l_ d1).1.2.2) : DwalWal) = ((gd_, ((dWrite D_ 0 ((fAppend [] ((cEncode d1).1)).1)).1)), (decide (¬ wWrong D_ br_ = 0)) || decide (¬ ((dWrite D_ 0 ((fAppend [] ((cEncode d1).1)).1)).2) = 0), l_ ++ [d1], es_ ++ [((lenW es_) + ((((fAppend [] ((cEncode d1).1)).1).length : Nat) : Int))]) := by first | rfl | (exact fin0_wApp_ok)
                refine ⟨?_, ?_⟩
                rotate_left
                · rw [hm0_]; exact (Ow.up ho50 (hS_.1 _ (.head _)))
                all_goals (first | rfl | (exact fin0_wApp_ok))
        · -- FF01
          refine VI.bsl (cs := [Value.int .i64 (d1.1), Value.int .i64 (d1.2.1), Value.slice p1_A2 (d1.2.2.length) (p1_c2)]) 152 rfl rfl rfl tsl25 tz42 rfl rfl (fun _ h => Inv.sbK [105, 102, 0] h) (fun g51 => ?_)
          refine VE.tree [3] (by kernel_rfl) ⟨?_, trivial⟩
          refine VI.call 1 rfl rfl (.inl rfl) fnOk31 rfl rfl (fun _ _ h => Inv.sbK [105, 102, 0] h) (fun W hW => wEnd_ok W (hW.at (i := 1) rfl) w8_0) (fun v53 m53 hv53 => ?_)
          try dsimp only at hv53
          obtain ⟨rfl, w53_0⟩ := hv53
          refine VE.nil (by kernel_rfl) rfl ?_ rfl
          have ho55 : OwnL TCommit (mone g51 (.cells [Value.int .i64 (d1.1), Value.int .i64 (d1.2.1), Value.slice p1_A2 (d1.2.2.length) (p1_c2)].toArray 42 (0, 0))) (mout (wm W) (m0)) (Value.slice (some ⟨g51, 0, none⟩) (1) (1)) [d1] := OwnL.lit 1 (All2c.cons (c1 := [Value.int .i64 (d1.1), Value.int .i64 (d1.2.1), Value.slice p1_A2 (d1.2.2.length) (p1_c2)]) (Rd.mono h1 (mle_refl _)) All2c.nil) rfl rfl
          refine VO.callN 154 rfl fnOk54 rfl (fun W hW => follows_ok W (lastOr 0 l_) (by simp only [inK]; (exact fin1_wApp_ok)) ((l_.length : Nat) : Int) (by simp only [inK]; (exact fin1_wApp_ok)) (OwnL.rd ho55 (hW.at (i := 152) rfl) (hW.at (i := 0) rfl))) (fun v54 m54 hv54 => ?_)
          obtain ⟨s54_0, rfl, f54_0⟩ := hv54
          obtain ⟨rfl, q54_0_0, q54_0_1⟩ := open_Fault (x0 := (cFollows (lastOr 0 l_) ((l_.length : Nat) : Int) ([d1])).1) (x1 := (cFollows (lastOr 0 l_) ((l_.length : Nat) : Int) ([d1])).2) (f54_0.rd (mle_refl _))
          simp only [inK] at q54_0_0
          simp only [inK] at q54_0_1
          refine VO.y rfl (.fld1 rfl tst69 rfl tfk69_0 rfl) ?_
          refine VO.y rfl (.neq rfl rfl) ?_
          refine VO.kp [1, 105, 102, 0] [(1, m53), (105, m5), (102, mone g1 (.cells [Value.int .i64 (d1.1), Value.int .i64 (d1.2.1), Value.slice p1_A2 (d1.2.2.length) (p1_c2)].toArray 42 (0, 0))), (0, mout (wm W) (m0))] ?_
          refine VO.k10 0 1 3 4 5 6 7 13 21 31 ?_
          refine outN ?_
          refine VC.cond rfl (fun hc56 => ?_) (fun hc56 => ?_)
          · -- FF01T
            refine VC.rs ?_
            refine VO.as ?_
            refine VO.k10 0 1 3 4 5 6 7 13 21 31 ?_
            refine VC.ret ?_
            refine outR ?_
            refine ⟨_, _, res_run (rs := [.tmp 4]) rfl (.tmp rfl .nil), fun W_ hI => out_of (l := [m53]) hI [1] rfl rfl (mle_refl _) (fun hS_ => ?_)⟩
            dsimp only [packV]
            have hm0_ : (((gd_, (wApp D_ br_ l_ d1).1.1), (wApp D_ br_ l_ d1).1.2.1, (wApp D_ br_ l_ d1).1.2.2, endsC (wApp D_ br_ l_ d1).1.2.2) : DwalWal) = ((gd_, D_), (decide (¬ wWrong D_ br_ = 0)), l_, es_) := by first | rfl | (exact fin0_wApp_ok)
            refine ⟨?_, ?_⟩
            rotate_left
            · rw [hm0_]; exact (Ow.up w53_0 (hS_.1 _ (.head _)))
            all_goals (first | rfl | (exact fin0_wApp_ok))
          · -- FF01F
            refine VC.skip ?_
            refine outN ?_
            refine VC.rs ?_
            refine VO.mv ?_
            refine VO.callN 157 rfl fnOk55 rfl (fun W hW => fAppend_ok W (Rd.nil _ _ none 0 (Nat.zero_le _)) (OwnL.rd (Ow.ownl f5_0 rfl mnil) (hW.at (i := 105) rfl) (mle_nil _)) (by exact fin1_wApp_ok)) (fun v57 m57 hv57 => ?_)
            obtain ⟨s57_0, rfl, f57_0⟩ := hv57
            have hfa58 := fAppend_len [] ((cEncode d1).1)
            have hfa59 := fAppend_range [] ((cEncode d1).1)
            obtain ⟨A57_0, c57_0, eq57_0, l57_0, k57_0⟩ := f57_0.slice
            subst eq57_0
            simp only [maxLen] at k57_0
            refine VO.mv ?_
            refine VO.y rfl (.ext rfl rfl) ?_
            refine VO.y rfl (.ext rfl rfl) ?_
            refine VO.as ?_
            refine VO.as ?_
            refine VO.k11 0 1 3 4 5 6 7 8 13 21 31 ?_
            refine VC.seq ?_
            refine VC.rs ?_
            refine VO.mv ?_
            refine VO.y rfl (.neq rfl rfl) ?_
            refine VO.k12 0 1 3 4 5 6 7 8 13 21 31 38 ?_
            refine VC.cond rfl (fun hc60 => ?_) (fun hc60 => ?_)
            · -- FF01FT
              exact absurd (by rw [app_fr (by assumption)]) hc60
            · -- FF01FF
              refine VC.skip ?_
              refine outN ?_
              refine VC.seq ?_
              refine VC.rs ?_
              refine VO.mv ?_
              refine VO.mv ?_
              refine VO.y rfl (.nilp rfl) ?_
              refine VO.y rfl (.fa rfl tst58 rfl) ?_
              obtain ⟨q61_E, q61_A2, q61_c2, q61_A3, q61_c3, q61_n0, q61_n2, q61_n3, _, q61_S, q61_0, q61_2, q61_3⟩ := openP_walWal (x0 := (gd_, D_)) (x1 := (decide (¬ wWrong D_ br_ = 0))) (x2 := l_) (x3 := es_) w53_0
              dsimp only at q61_0
              have q61_r2 := q61_2.rm
              have q61_r3 := q61_3.rm
              refine VO.inv _ (fun _ h => h.parts (i := 1) rfl q61_S [165, 162, 163, 164]) ?_
              refine VO.y rfl (.ld1 165 rfl tk37 rfl (cellsAt_one rfl rfl)) ?_
              refine VO.mv ?_
              refine VO.call 162 rfl fnOk57 rfl rfl (fun W hW => dWrite_ok W (hW.at (i := 162) rfl) q61_0 0 (by simp only [inK]; (exact fin1_wApp_ok)) (OwnL.rd (Ow.ownl f57_0 rfl mnil) (hW.out (i := 162) (j := 157) rfl rfl) (mle_nil _)) (by assumption) (by exact fin1_wApp_ok)) (fun v66 m66 hv66 => ?_)
              obtain ⟨rfl, w66_0⟩ := hv66
              have hfa67 := (write_ok (f := 0) (b := ((fAppend [] ((cEncode d1).1)).1)) (show okD D_ by assumption))
              have hfa68 := (write_w (f := 0) (b := ((fAppend [] ((cEncode d1).1)).1)) (show okD D_ by assumption))
              refine VO.clsP 170 [165, 162, 163, 164] rfl (fun hg70 => (mkP_walWal (gd_, (dWrite D_ 0 ((fAppend [] ((cEncode d1).1)).1)).1) (decide (¬ wWrong D_ br_ = 0)) l_ es_ hg70 w66_0 q61_2 (OwnL.ow (Ow.ownl q61_3 rfl mnil) rfl))) (fun mc70 ho70 => ?_)
              refine VO.call 170 rfl fnOk56 rfl rfl (fun W hW => wTried_ok W (hW.at (i := 170) rfl) ho70 ((dWrite D_ 0 ((fAppend [] ((cEncode d1).1)).1)).2) (by simp only [inK]; (exact fin1_wApp_ok))) (fun v69 m69 hv69 => ?_)
              try dsimp only at hv69
              obtain ⟨rfl, w69_0⟩ := hv69
              refine VO.as ?_
              refine VO.kp [170, 157, 105, 102, 0] [(170, m69), (157, m57), (105, m5), (102, mone g1 (.cells [Value.int .i64 (d1.1), Value.int .i64 (d1.2.1), Value.slice p1_A2 (d1.2.2.length) (p1_c2)].toArray 42 (0, 0))), (0, mout (wm W) (m0))] ?_
              refine VO.k13 0 1 3 4 5 6 7 8 9 13 21 31 38 ?_
              refine VC.rs ?_
              refine VO.mv ?_
              refine VO.y rfl (.neq rfl rfl) ?_
              refine VO.k14 0 1 3 4 5 6 7 8 9 13 21 31 38 49 ?_
              refine VC.cond rfl (fun hc71 => ?_) (fun hc71 => ?_)
              · -- FF01FFT
                refine VC.rs ?_
                refine VO.mv ?_
                refine VO.as ?_
                refine VO.k14 0 1 3 4 5 6 7 8 9 13 21 31 38 49 ?_
                refine VC.ret ?_
                refine outR ?_
                refine ⟨_, _, res_run (rs := [.tmp 4]) rfl (.tmp rfl .nil), fun W_ hI => out_of (l := [m69]) hI [170] rfl rfl (mle_refl _) (fun hS_ => ?_)⟩
                dsimp only [packV]
                have hm0_ : (((gd_, (wApp D_ br_ l_ d1).1.1), (wApp D_ br_ l_ d1).1.2.1, (wApp D_ br_ l_ d1).1.2.2, endsC (wApp D_ br_ l_ d1).1.2.2) : DwalWal) = ((gd_, ((dWrite D_ 0 ((fAppend [] ((cEncode d1).1)).1)).1)), (decide (¬ wWrong D_ br_ = 0)) || decide (¬ ((dWrite D_ 0 ((fAppend [] ((cEncode d1).1)).1)).2) = 0), l_, es_) := by first | rfl | (exact fin0_wApp_ok)
                refine ⟨?_, ?_⟩
                rotate_left
                · rw [hm0_]; exact (Ow.up w69_0 (hS_.1 _ (.head _)))
                all_goals (first | rfl | (exact fin0_wApp_ok))
              · -- FF01FFF
                refine VC.skip ?_
                refine outN ?_
                refine VC.seq ?_
                obtain ⟨q72_E, q72_A2, q72_c2, q72_A3, q72_c3, q72_n0, q72_n2, q72_n3, _, q72_S, q72_0, q72_2, q72_3⟩ := openP_walWal (x0 := (gd_, ((dWrite D_ 0 ((fAppend [] ((cEncode d1).1)).1)).1))) (x1 := (decide (¬ wWrong D_ br_ = 0)) || decide (¬ ((dWrite D_ 0 ((fAppend [] ((cEncode d1).1)).1)).2) = 0)) (x2 := l_) (x3 := es_) w69_0
                dsimp only at q72_0
                have q72_r2 := q72_2.rm
                have q72_r3 := q72_3.rm
                refine VC.inv _ (fun _ h => h.parts (i := 170) rfl q72_S [176, 173, 174, 175]) ?_
                refine VC.regD [(176, mone g0 (.cells [Value.pointer (some ⟨gd_, 0, none⟩), Value.bool ((decide (¬ wWrong D_ br_ = 0)) || decide (¬ ((dWrite D_ 0 ((fAppend [] ((cEncode d1).1)).1)).2) = 0)), Value.slice q72_A2 (l_.length) (q72_c2), Value.slice q72_A3 (es_.length) (q72_c3)].toArray q72_E (0, 0))), (173, q72_n0), (175, q72_n3), (157, m57), (105, m5), (102, mone g1 (.cells [Value.int .i64 (d1.1), Value.int .i64 (d1.2.1), Value.slice p1_A2 (d1.2.2.length) (p1_c2)].toArray 42 (0, 0))), (0, mout (wm W) (m0))] 9 [(0, true), (1, true), (2, true), (3, true), (4, true), (5, true), (6, false), (7, false), (8, false)] follows (by kernel_rfl) (fun _ h => h.sub [176, 173, 175, 157, 105, 102, 0]) ?_
                refine VD.y rfl rfl (.inl rfl) (.mv rfl) ?_
                refine VD.y rfl rfl (.inl rfl) (.mv rfl) ?_
                refine VD.y rfl rfl (.inl rfl) (.nilp rfl) ?_
                refine VD.y rfl rfl (.inl rfl) (.fa rfl tst58 rfl) ?_
                refine VD.y rfl rfl (.inl rfl) (.ld1 176 rfl tk25 rfl (cellsAt_one rfl rfl)) ?_
                refine VD.y rfl rfl (.inl rfl) (.ldA 102 rfl tk42 rfl (cellsAt_one rfl rfl)) ?_
                refine VD.callN 177 rfl rfl (.inl rfl) fnOk58 rfl (fun _ h => Inv.sbK [176, 173, 175, 157, 105, 102, 0] h) (fun W hW => cCopy_ok W (Rd.mono h1 (hW.at (i := 0) rfl)) (by exact fin1_wApp_ok)) (fun v77 m77 hv77 => ?_)
                obtain ⟨s77_0, rfl, f77_0⟩ := hv77
                obtain ⟨q77_0_A2, q77_0_c2, q77_0_n2, rfl, q77_0_S, q77_0_0, q77_0_1, q77_0_2⟩ := openO_Commit (x0 := d1.1) (x1 := d1.2.1) (x2 := d1.2.2) f77_0
                simp only [inK] at q77_0_0
                simp only [inK] at q77_0_1
                have q77_0_r2 := q77_0_2.rm
                refine VD.inv _ (fun _ h => h.parts (i := 177) rfl q77_0_S [178]) ?_
                refine VD.bsl (cs := [Value.int .i64 (d1.1), Value.int .i64 (d1.2.1), Value.slice q77_0_A2 (d1.2.2.length) (q77_0_c2)]) 180 rfl rfl rfl tsl25 tz42 rfl rfl (fun _ h => Inv.sbK [176, 173, 175, 157, 105, 102, 0] h) (fun g79 => ?_)
                refine VD.appO (e := TCommit) 174 178 180 rfl rfl rfl rfl tsl25 tz42 rfl rfl rfl rfl q72_2 (show Ow TCommit _ _ d1 from (mkO_Commit d1.1 d1.2.1 d1.2.2 (Seps.one (mle_refl _)) (by simp only [inK]; (exact fin1_wApp_ok)) (by simp only [inK]; (exact fin1_wApp_ok)) (OwnL.ow (Ow.ownl q77_0_2 rfl mnil) rfl))) Try.underlying25 (cellsAt_one rfl rfl) (by simp only [maxLen]; (exact fin1_wApp_ok)) (by exact fin1_wApp_ok) (by decide) (fun _ _ h => Inv.sbK [176, 173, 175, 157, 105, 102, 0] h) (fun v81 m81 ho81 => ?_)
                obtain ⟨A81, c81, rfl, l81, k81⟩ := ho81.slice
                simp only [maxLen] at k81
                refine VD.nil rfl ?_ rfl
                refine VO.y rfl (.nilp rfl) ?_
                refine VO.y rfl (.fa rfl tst58 rfl) ?_
                refine VO.store (k := 1) (c' := [Value.pointer (some ⟨gd_, 0, none⟩), Value.bool ((decide (¬ wWrong D_ br_ = 0)) || decide (¬ ((dWrite D_ 0 ((fAppend [] ((cEncode d1).1)).1)).2) = 0)), Value.slice A81 ((l_ ++ [d1]).length) (c81), Value.slice q72_A3 (es_.length) (q72_c3)]) 176 rfl rfl (.inr ⟨tk25, rfl⟩) rfl rfl rfl rfl rfl ?_
                refine VO.clsP 182 [176, 173, 174, 175] rfl (fun hg82 => (mkP_walWal (gd_, ((dWrite D_ 0 ((fAppend [] ((cEncode d1).1)).1)).1)) ((decide (¬ wWrong D_ br_ = 0)) || decide (¬ ((dWrite D_ 0 ((fAppend [] ((cEncode d1).1)).1)).2) = 0)) (l_ ++ [d1]) es_ hg82 q72_0 ho81 (OwnL.ow (Ow.ownl q72_3 rfl mnil) rfl))) (fun mc82 ho82 => ?_)
                refine VO.k14 0 1 3 4 5 6 7 8 9 13 21 31 38 49 ?_
                refine outN ?_
                refine VC.seq ?_
                obtain ⟨q83_E, q83_A2, q83_c2, q83_A3, q83_c3, q83_n0, q83_n2, q83_n3, _, q83_S, q83_0, q83_2, q83_3⟩ := openP_walWal (x0 := (gd_, ((dWrite D_ 0 ((fAppend [] ((cEncode d1).1)).1)).1))) (x1 := (decide (¬ wWrong D_ br_ = 0)) || decide (¬ ((dWrite D_ 0 ((fAppend [] ((cEncode d1).1)).1)).2) = 0)) (x2 := l_ ++ [d1]) (x3 := es_) ho82
                dsimp only at q83_0
                have q83_r2 := q83_2.rm
                have q83_r3 := q83_3.rm
                refine VC.inv _ (fun _ h => h.parts (i := 182) rfl q83_S [187, 184, 185, 186]) ?_
                refine VC.regD [(187, mone g0 (.cells [Value.pointer (some ⟨gd_, 0, none⟩), Value.bool ((decide (¬ wWrong D_ br_ = 0)) || decide (¬ ((dWrite D_ 0 ((fAppend [] ((cEncode d1).1)).1)).2) = 0)), Value.slice q83_A2 ((l_ ++ [d1]).length) (q83_c2), Value.slice q83_A3 (es_.length) (q83_c3)].toArray q83_E (0, 0))), (184, q83_n0), (185, q83_n2), (180, mone g79 (.cells [Value.int .i64 (d1.1), Value.int .i64 (d1.2.1), Value.slice q77_0_A2 (d1.2.2.length) (q77_0_c2)].toArray 42 (0, 0))), (157, m57), (105, m5), (102, mone g1 (.cells [Value.int .i64 (d1.1), Value.int .i64 (d1.2.1), Value.slice p1_A2 (d1.2.2.length) (p1_c2)].toArray 42 (0, 0))), (0, mout (wm W) (m0))] 15 [(0, true), (1, true), (2, true), (3, true), (4, true), (5, true), (6, true), (7, true), (8, true), (10, true), (11, true), (9, false), (12, true), (13, false), (14, false)] follows (by kernel_rfl) (fun _ h => h.sub [187, 184, 185, 180, 157, 105, 102, 0]) ?_
                refine VD.y rfl rfl (.inl rfl) (.mv rfl) ?_
                refine VD.y rfl rfl (.inl rfl) (.mv rfl) ?_
                refine VD.y rfl rfl (.inl rfl) (.nilp rfl) ?_
                refine VD.y rfl rfl (.inl rfl) (.fa rfl tst58 rfl) ?_
                refine VD.y rfl rfl (.inl rfl) (.ld1 187 rfl tk56 rfl (cellsAt_one rfl rfl)) ?_
                refine VD.y rfl rfl (.inl rfl) (.mv rfl) ?_
                refine VD.y rfl rfl (.inl rfl) (.nilp rfl) ?_
                refine VD.y rfl rfl (.inl rfl) (.fa rfl tst58 rfl) ?_
                refine VD.y rfl rfl (.inl rfl) (.ld1 187 rfl tk56 rfl (cellsAt_one rfl rfl)) ?_
                refine VD.y rfl rfl (.inl rfl) (.mv rfl) ?_
                refine VD.y rfl rfl (.inl rfl) (.lenS rfl tsl22) ?_
                refine VD.callN 188 rfl rfl (.inl rfl) fnOk41 rfl (fun _ h => Inv.sbK [187, 184, 185, 180, 157, 105, 102, 0] h) (fun W hW => wLength_ok W (OwnL.rd (Ow.ownl q83_3 rfl mnil) (hW.at (i := 186) rfl) (mle_nil _))) (fun v88 m88 hv88 => ?_)
                subst hv88
                refine VD.y rfl rfl (.inl rfl) (.add rfl rfl rfl ⟨by exact fin1_wApp_ok, by exact fin1_wApp_ok⟩) ?_
                refine VD.bsl (cs := [Value.int .i64 ((lenW es_) + ((((fAppend [] ((cEncode d1).1)).1).length : Nat) : Int))]) 190 rfl rfl rfl tsl56 tz3 rfl rfl (fun _ h => Inv.sbK [187, 184, 185, 180, 157, 105, 102, 0] h) (fun g89 => ?_)
                obtain ⟨mo91, cs91, hM91, hA91, hC91⟩ := (Ow.ownl q83_3 rfl mnil)
                refine VD.app 186 rfl rfl rfl rfl tsl56 tz3 rfl rfl hM91 hA91 (.row 190 _ _ _ 1 1 _ _ Try.underlying56 rfl (cellsAt_one rfl rfl)) (by simp [Value.oneCell']) (by simp only [maxLen]; (exact fin1_wApp_ok)) (by exact fin1_wApp_ok) (by decide) (fun _ _ h => Inv.sbK [187, 184, 185, 180, 157, 105, 102, 0] h) (fun v91 m91 hN91 => ?_)
                have ho91 : OwnL (.int .i64) m91 mnil v91 (es_ ++ [((lenW es_) + ((((fAppend [] ((cEncode d1).1)).1).length : Nat) : Int))]) := OwnL.one hC91 hN91 (show Rd (.int .i64) _ [_] _ from ⟨rfl, by simp only [inK]; (exact fin1_wApp_ok)⟩)
                obtain ⟨A91, c91, rfl, l91, k91⟩ := ho91.slice
                simp only [maxLen] at k91
                refine VD.nil rfl ?_ rfl
                refine VO.y rfl (.nilp rfl) ?_
                refine VO.y rfl (.fa rfl tst58 rfl) ?_
                refine VO.store (k := 1) (c' := [Value.pointer (some ⟨gd_, 0, none⟩), Value.bool ((decide (¬ wWrong D_ br_ = 0)) || decide (¬ ((dWrite D_ 0 ((fAppend [] ((cEncode d1).1)).1)).2) = 0)), Value.slice q83_A2 ((l_ ++ [d1]).length) (q83_c2), Value.slice A91 ((es_ ++ [((lenW es_) + ((((fAppend [] ((cEncode d1).1)).1).length : Nat) : Int))]).length) (c91)]) 187 rfl rfl (.inr ⟨tk56, rfl⟩) rfl rfl rfl rfl rfl ?_
                refine VO.clsP 192 [187, 184, 185, 186] rfl (fun hg92 => (mkP_walWal (gd_, ((dWrite D_ 0 ((fAppend [] ((cEncode d1).1)).1)).1)) ((decide (¬ wWrong D_ br_ = 0)) || decide (¬ ((dWrite D_ 0 ((fAppend [] ((cEncode d1).1)).1)).2) = 0)) (l_ ++ [d1]) (es_ ++ [((lenW es_) + ((((fAppend [] ((cEncode d1).1)).1).length : Nat) : Int))]) hg92 q83_0 q83_2 (OwnL.ow ho91 rfl))) (fun mc92 ho92 => ?_)
                refine VO.kp [192, 157, 105, 102, 0] [(192, mc92), (157, m57), (105, m5), (102, mone g1 (.cells [Value.int .i64 (d1.1), Value.int .i64 (d1.2.1), Value.slice p1_A2 (d1.2.2.length) (p1_c2)].toArray 42 (0, 0))), (0, mout (wm W) (m0))] ?_
                refine VO.k14 0 1 3 4 5 6 7 8 9 13 21 31 38 49 ?_
                refine outN ?_
                refine VC.rs ?_
                refine VO.as ?_
                refine VO.k14 0 1 3 4 5 6 7 8 9 13 21 31 38 49 ?_
                refine VC.ret ?_
                refine ⟨_, _, res_run (rs := [.tmp 4]) rfl (.tmp rfl .nil), fun W_ hI => out_of (l := [mc92]) hI [192] rfl rfl (mle_refl _) (fun hS_ => ?_)⟩
                dsimp only [packV]
                have hm0_ : (((gd_, (wApp D_ br_ l_ d1).1.1), (wApp D_ br_ l_ d1).1.2.1, (wApp D_ br_ l_ d1).1.2.2, endsC (wApp D_ br_ l_ d1).1.2.2) : DwalWal) = ((gd_, ((dWrite D_ 0 ((fAppend [] ((cEncode d1).1)).1)).1)), (decide (¬ wWrong D_ br_ = 0)) || decide (¬ ((dWrite D_ 0 ((fAppend [] ((cEncode d1).1)).1)).2) = 0), l_ ++ [d1], es_ ++ [((lenW es_) + ((((fAppend [] ((cEncode d1).1)).1).length : Nat) : Int))]) := by first | rfl | (exact fin0_wApp_ok)
                refine ⟨?_, ?_⟩
                rotate_left
                · rw [hm0_]; exact (Ow.up ho92 (hS_.1 _ (.head _)))
                all_goals (first | rfl | (exact fin0_wApp_ok))
      · -- FF1
        refine VI.bsl (cs := [Value.int .i64 (d1.1), Value.int .i64 (d1.2.1), Value.slice p1_A2 (d1.2.2.length) (p1_c2)]) 194 rfl rfl rfl tsl25 tz42 rfl rfl (fun _ h => Inv.sbK [105, 102, 0] h) (fun g93 => ?_)
        refine VE.tree [1] (by kernel_rfl) ⟨?_, trivial⟩
        refine VI.call 1 rfl rfl (.inl rfl) fnOk20 rfl rfl (fun _ _ h => Inv.sbK [105, 102, 0] h) (fun W hW => wEpoch_ok W (hW.at (i := 1) rfl) w3_0) (fun v95 m95 hv95 => ?_)
        try dsimp only at hv95
        obtain ⟨rfl, w95_0⟩ := hv95
        refine VE.tree [3] (by kernel_rfl) ⟨?_, trivial⟩
        refine VI.call 1 rfl rfl (.inl rfl) fnOk31 rfl rfl (fun _ _ h => Inv.sbK [105, 102, 0] h) (fun W hW => wEnd_ok W (hW.at (i := 1) rfl) w95_0) (fun v96 m96 hv96 => ?_)
        try dsimp only at hv96
        obtain ⟨rfl, w96_0⟩ := hv96
        refine VE.nil (by kernel_rfl) rfl ?_ rfl
        have ho98 : OwnL TCommit (mone g93 (.cells [Value.int .i64 (d1.1), Value.int .i64 (d1.2.1), Value.slice p1_A2 (d1.2.2.length) (p1_c2)].toArray 42 (0, 0))) (mout (wm W) (m0)) (Value.slice (some ⟨g93, 0, none⟩) (1) (1)) [d1] := OwnL.lit 1 (All2c.cons (c1 := [Value.int .i64 (d1.1), Value.int .i64 (d1.2.1), Value.slice p1_A2 (d1.2.2.length) (p1_c2)]) (Rd.mono h1 (mle_refl _)) All2c.nil) rfl rfl
        refine VO.callN 197 rfl fnOk54 rfl (fun W hW => follows_ok W (lastOr 0 l_) (by simp only [inK]; (exact fin1_wApp_ok)) ((l_.length : Nat) : Int) (by simp only [inK]; (exact fin1_wApp_ok)) (OwnL.rd ho98 (hW.at (i := 194) rfl) (hW.at (i := 0) rfl))) (fun v97 m97 hv97 => ?_)
        obtain ⟨s97_0, rfl, f97_0⟩ := hv97
        obtain ⟨rfl, q97_0_0, q97_0_1⟩ := open_Fault (x0 := (cFollows (lastOr 0 l_) ((l_.length : Nat) : Int) ([d1])).1) (x1 := (cFollows (lastOr 0 l_) ((l_.length : Nat) : Int) ([d1])).2) (f97_0.rd (mle_refl _))
        simp only [inK] at q97_0_0
        simp only [inK] at q97_0_1
        refine VO.y rfl (.fld1 rfl tst69 rfl tfk69_0 rfl) ?_
        refine VO.y rfl (.neq rfl rfl) ?_
        refine VO.kp [1, 105, 102, 0] [(1, m96), (105, m5), (102, mone g1 (.cells [Value.int .i64 (d1.1), Value.int .i64 (d1.2.1), Value.slice p1_A2 (d1.2.2.length) (p1_c2)].toArray 42 (0, 0))), (0, mout (wm W) (m0))] ?_
        refine VO.k10 0 1 3 4 5 6 7 13 21 31 ?_
        refine outN ?_
        refine VC.cond rfl (fun hc99 => ?_) (fun hc99 => ?_)
        · -- FF1T
          refine VC.rs ?_
          refine VO.as ?_
          refine VO.k10 0 1 3 4 5 6 7 13 21 31 ?_
          refine VC.ret ?_
          refine outR ?_
          refine ⟨_, _, res_run (rs := [.tmp 4]) rfl (.tmp rfl .nil), fun W_ hI => out_of (l := [m96]) hI [1] rfl rfl (mle_refl _) (fun hS_ => ?_)⟩
          dsimp only [packV]
          have hm0_ : (((gd_, (wApp D_ br_ l_ d1).1.1), (wApp D_ br_ l_ d1).1.2.1, (wApp D_ br_ l_ d1).1.2.2, endsC (wApp D_ br_ l_ d1).1.2.2) : DwalWal) = ((gd_, D_), (decide (¬ wWrong D_ br_ = 0)), l_, es_) := by first | rfl | (exact fin0_wApp_ok)
          refine ⟨?_, ?_⟩
          rotate_left
          · rw [hm0_]; exact (Ow.up w96_0 (hS_.1 _ (.head _)))
          all_goals (first | rfl | (exact fin0_wApp_ok))
        · -- FF1F
          refine VC.skip ?_
          refine outN ?_
          refine VC.rs ?_
          refine VO.mv ?_
          refine VO.callN 200 rfl fnOk55 rfl (fun W hW => fAppend_ok W (Rd.nil _ _ none 0 (Nat.zero_le _)) (OwnL.rd (Ow.ownl f5_0 rfl mnil) (hW.at (i := 105) rfl) (mle_nil _)) (by exact fin1_wApp_ok)) (fun v100 m100 hv100 => ?_)
          obtain ⟨s100_0, rfl, f100_0⟩ := hv100
          have hfa101 := fAppend_len [] ((cEncode d1).1)
          have hfa102 := fAppend_range [] ((cEncode d1).1)
          obtain ⟨A100_0, c100_0, eq100_0, l100_0, k100_0⟩ := f100_0.slice
          subst eq100_0
          simp only [maxLen] at k100_0
          refine VO.mv ?_
          refine VO.y rfl (.ext rfl rfl) ?_
          refine VO.y rfl (.ext rfl rfl) ?_
          refine VO.as ?_
          refine VO.as ?_
          refine VO.k11 0 1 3 4 5 6 7 8 13 21 31 ?_
          refine VC.seq ?_
          refine VC.rs ?_
          refine VO.mv ?_
          refine VO.y rfl (.neq rfl rfl) ?_
          refine VO.k12 0 1 3 4 5 6 7 8 13 21 31 38 ?_
          refine VC.cond rfl (fun hc103 => ?_) (fun hc103 => ?_)
          · -- FF1FT
            exact absurd (by rw [app_fr (by assumption)]) hc103
          · -- FF1FF
            refine VC.skip ?_
            refine outN ?_
            refine VC.seq ?_
            refine VC.rs ?_
            refine VO.mv ?_
            refine VO.mv ?_
            refine VO.y rfl (.nilp rfl) ?_
            refine VO.y rfl (.fa rfl tst58 rfl) ?_
            obtain ⟨q104_E, q104_A2, q104_c2, q104_A3, q104_c3, q104_n0, q104_n2, q104_n3, _, q104_S, q104_0, q104_2, q104_3⟩ := openP_walWal (x0 := (gd_, D_)) (x1 := (decide (¬ wWrong D_ br_ = 0))) (x2 := l_) (x3 := es_) w96_0
            dsimp only at q104_0
            have q104_r2 := q104_2.rm
            have q104_r3 := q104_3.rm
            refine VO.inv _ (fun _ h => h.parts (i := 1) rfl q104_S [208, 205, 206, 207]) ?_
            refine VO.y rfl (.ld1 208 rfl tk37 rfl (cellsAt_one rfl rfl)) ?_
            refine VO.mv ?_
            refine VO.call 205 rfl fnOk57 rfl rfl (fun W hW => dWrite_ok W (hW.at (i := 205) rfl) q104_0 0 (by simp only [inK]; (exact fin1_wApp_ok)) (OwnL.rd (Ow.ownl f100_0 rfl mnil) (hW.out (i := 205) (j := 200) rfl rfl) (mle_nil _)) (by assumption) (by exact fin1_wApp_ok)) (fun v109 m109 hv109 => ?_)
            obtain ⟨rfl, w109_0⟩ := hv109
            have hfa110 := (write_ok (f := 0) (b := ((fAppend [] ((cEncode d1).1)).1)) (show okD D_ by assumption))
            have hfa111 := (write_w (f := 0) (b := ((fAppend [] ((cEncode d1).1)).1)) (show okD D_ by assumption))
            refine VO.clsP 213 [208, 205, 206, 207] rfl (fun hg113 => (mkP_walWal (gd_, (dWrite D_ 0 ((fAppend [] ((cEncode d1).1)).1)).1) (decide (¬ wWrong D_ br_ = 0)) l_ es_ hg113 w109_0 q104_2 (OwnL.ow (Ow.ownl q104_3 rfl mnil) rfl))) (fun mc113 ho113 => ?_)
            refine VO.call 213 rfl fnOk56 rfl rfl (fun W hW => wTried_ok W (hW.at (i := 213) rfl) ho113 ((dWrite D_ 0 ((fAppend [] ((cEncode d1).1)).1)).2) (by simp only [inK]; (exact fin1_wApp_ok))) (fun v112 m112 hv112 => ?_)
            try dsimp only at hv112
            obtain ⟨rfl, w112_0⟩ := hv112
            refine VO.as ?_
            refine VO.kp [213, 200, 105, 102, 0] [(213, m112), (200, m100), (105, m5), (102, mone g1 (.cells [Value.int .i64 (d1.1), Value.int .i64 (d1.2.1), Value.slice p1_A2 (d1.2.2.length) (p1_c2)].toArray 42 (0, 0))), (0, mout (wm W) (m0))] ?_
            refine VO.k13 0 1 3 4 5 6 7 8 9 13 21 31 38 ?_
            refine VC.rs ?_
            refine VO.mv ?_
            refine VO.y rfl (.neq rfl rfl) ?_
            refine VO.k14 0 1 3 4 5 6 7 8 9 13 21 31 38 49 ?_
            refine VC.cond rfl (fun hc114 => ?_) (fun hc114 => ?_)
            · -- FF1FFT
              refine VC.rs ?_
              refine VO.mv ?_
              refine VO.as ?_
              refine VO.k14 0 1 3 4 5 6 7 8 9 13 21 31 38 49 ?_
              refine VC.ret ?_
              refine outR ?_
              refine ⟨_, _, res_run (rs := [.tmp 4]) rfl (.tmp rfl .nil), fun W_ hI => out_of (l := [m112]) hI [213] rfl rfl (mle_refl _) (fun hS_ => ?_)⟩
              dsimp only [packV]
              have hm0_ : (((gd_, (wApp D_ br_ l_ d1).1.1), (wApp D_ br_ l_ d1).1.2.1, (wApp D_ br_ l_ d1).1.2.2, endsC (wApp D_ br_ l_ d1).1.2.2) : DwalWal) = ((gd_, ((dWrite D_ 0 ((fAppend [] ((cEncode d1).1)).1)).1)), (decide (¬ wWrong D_ br_ = 0)) || decide (¬ ((dWrite D_ 0 ((fAppend [] ((cEncode d1).1)).1)).2) = 0), l_, es_) := by first | rfl | (exact fin0_wApp_ok)
              refine ⟨?_, ?_⟩
              rotate_left
              · rw [hm0_]; exact (Ow.up w112_0 (hS_.1 _ (.head _)))
              all_goals (first | rfl | (exact fin0_wApp_ok))
            · -- FF1FFF
              refine VC.skip ?_
              refine outN ?_
              refine VC.seq ?_
              obtain ⟨q115_E, q115_A2, q115_c2, q115_A3, q115_c3, q115_n0, q115_n2, q115_n3, _, q115_S, q115_0, q115_2, q115_3⟩ := openP_walWal (x0 := (gd_, ((dWrite D_ 0 ((fAppend [] ((cEncode d1).1)).1)).1))) (x1 := (decide (¬ wWrong D_ br_ = 0)) || decide (¬ ((dWrite D_ 0 ((fAppend [] ((cEncode d1).1)).1)).2) = 0)) (x2 := l_) (x3 := es_) w112_0
              dsimp only at q115_0
              have q115_r2 := q115_2.rm
              have q115_r3 := q115_3.rm
              refine VC.inv _ (fun _ h => h.parts (i := 213) rfl q115_S [219, 216, 217, 218]) ?_
              refine VC.regD [(219, mone g0 (.cells [Value.pointer (some ⟨gd_, 0, none⟩), Value.bool ((decide (¬ wWrong D_ br_ = 0)) || decide (¬ ((dWrite D_ 0 ((fAppend [] ((cEncode d1).1)).1)).2) = 0)), Value.slice q115_A2 (l_.length) (q115_c2), Value.slice q115_A3 (es_.length) (q115_c3)].toArray q115_E (0, 0))), (216, q115_n0), (218, q115_n3), (200, m100), (105, m5), (102, mone g1 (.cells [Value.int .i64 (d1.1), Value.int .i64 (d1.2.1), Value.slice p1_A2 (d1.2.2.length) (p1_c2)].toArray 42 (0, 0))), (0, mout (wm W) (m0))] 9 [(0, true), (1, true), (2, true), (3, true), (4, true), (5, true), (6, false), (7, false), (8, false)] follows (by kernel_rfl) (fun _ h => h.sub [219, 216, 218, 200, 105, 102, 0]) ?_
              refine VD.y rfl rfl (.inl rfl) (.mv rfl) ?_
              refine VD.y rfl rfl (.inl rfl) (.mv rfl) ?_
              refine VD.y rfl rfl (.inl rfl) (.nilp rfl) ?_
              refine VD.y rfl rfl (.inl rfl) (.fa rfl tst58 rfl) ?_
              refine VD.y rfl rfl (.inl rfl) (.ld1 219 rfl tk25 rfl (cellsAt_one rfl rfl)) ?_
              refine VD.y rfl rfl (.inl rfl) (.ldA 102 rfl tk42 rfl (cellsAt_one rfl rfl)) ?_
              refine VD.callN 220 rfl rfl (.inl rfl) fnOk58 rfl (fun _ h => Inv.sbK [219, 216, 218, 200, 105, 102, 0] h) (fun W hW => cCopy_ok W (Rd.mono h1 (hW.at (i := 0) rfl)) (by exact fin1_wApp_ok)) (fun v120 m120 hv120 => ?_)
              obtain ⟨s120_0, rfl, f120_0⟩ := hv120
              obtain ⟨q120_0_A2, q120_0_c2, q120_0_n2, rfl, q120_0_S, q120_0_0, q120_0_1, q120_0_2⟩ := openO_Commit (x0 := d1.1) (x1 := d1.2.1) (x2 := d1.2.2) f120_0
              simp only [inK] at q120_0_0
              simp only [inK] at q120_0_1
              have q120_0_r2 := q120_0_2.rm
              refine VD.inv _ (fun _ h => h.parts (i := 220) rfl q120_0_S [221]) ?_
              refine VD.bsl (cs := [Value.int .i64 (d1.1), Value.int .i64 (d1.2.1), Value.slice q120_0_A2 (d1.2.2.length) (q120_0_c2)]) 223 rfl rfl rfl tsl25 tz42 rfl rfl (fun _ h => Inv.sbK [219, 216, 218, 200, 105, 102, 0] h) (fun g122 => ?_)
              refine VD.appO (e := TCommit) 217 221 223 rfl rfl rfl rfl tsl25 tz42 rfl rfl rfl rfl q115_2 (show Ow TCommit _ _ d1 from (mkO_Commit d1.1 d1.2.1 d1.2.2 (Seps.one (mle_refl _)) (by simp only [inK]; (exact fin1_wApp_ok)) (by simp only [inK]; (exact fin1_wApp_ok)) (OwnL.ow (Ow.ownl q120_0_2 rfl mnil) rfl))) Try.underlying25 (cellsAt_one rfl rfl) (by simp only [maxLen]; (exact fin1_wApp_ok)) (by exact fin1_wApp_ok) (by decide) (fun _ _ h => Inv.sbK [219, 216, 218, 200, 105, 102, 0] h) (fun v124 m124 ho124 => ?_)
              obtain ⟨A124, c124, rfl, l124, k124⟩ := ho124.slice
              simp only [maxLen] at k124
              refine VD.nil rfl ?_ rfl
              refine VO.y rfl (.nilp rfl) ?_
              refine VO.y rfl (.fa rfl tst58 rfl) ?_
              refine VO.store (k := 1) (c' := [Value.pointer (some ⟨gd_, 0, none⟩), Value.bool ((decide (¬ wWrong D_ br_ = 0)) || decide (¬ ((dWrite D_ 0 ((fAppend [] ((cEncode d1).1)).1)).2) = 0)), Value.slice A124 ((l_ ++ [d1]).length) (c124), Value.slice q115_A3 (es_.length) (q115_c3)]) 219 rfl rfl (.inr ⟨tk25, rfl⟩) rfl rfl rfl rfl rfl ?_
              refine VO.clsP 225 [219, 216, 217, 218] rfl (fun hg125 => (mkP_walWal (gd_, ((dWrite D_ 0 ((fAppend [] ((cEncode d1).1)).1)).1)) ((decide (¬ wWrong D_ br_ = 0)) || decide (¬ ((dWrite D_ 0 ((fAppend [] ((cEncode d1).1)).1)).2) = 0)) (l_ ++ [d1]) es_ hg125 q115_0 ho124 (OwnL.ow (Ow.ownl q115_3 rfl mnil) rfl))) (fun mc125 ho125 => ?_)
              refine VO.k14 0 1 3 4 5 6 7 8 9 13 21 31 38 49 ?_
              refine outN ?_
              refine VC.seq ?_
              obtain ⟨q126_E, q126_A2, q126_c2, q126_A3, q126_c3, q126_n0, q126_n2, q126_n3, _, q126_S, q126_0, q126_2, q126_3⟩ := openP_walWal (x0 := (gd_, ((dWrite D_ 0 ((fAppend [] ((cEncode d1).1)).1)).1))) (x1 := (decide (¬ wWrong D_ br_ = 0)) || decide (¬ ((dWrite D_ 0 ((fAppend [] ((cEncode d1).1)).1)).2) = 0)) (x2 := l_ ++ [d1]) (x3 := es_) ho125
              dsimp only at q126_0
              have q126_r2 := q126_2.rm
              have q126_r3 := q126_3.rm
              refine VC.inv _ (fun _ h => h.parts (i := 225) rfl q126_S [230, 227, 228, 229]) ?_
              refine VC.regD [(230, mone g0 (.cells [Value.pointer (some ⟨gd_, 0, none⟩), Value.bool ((decide (¬ wWrong D_ br_ = 0)) || decide (¬ ((dWrite D_ 0 ((fAppend [] ((cEncode d1).1)).1)).2) = 0)), Value.slice q126_A2 ((l_ ++ [d1]).length) (q126_c2), Value.slice q126_A3 (es_.length) (q126_c3)].toArray q126_E (0, 0))), (227, q126_n0), (228, q126_n2), (223, mone g122 (.cells [Value.int .i64 (d1.1), Value.int .i64 (d1.2.1), Value.slice q120_0_A2 (d1.2.2.length) (q120_0_c2)].toArray 42 (0, 0))), (200, m100), (105, m5), (102, mone g1 (.cells [Value.int .i64 (d1.1), Value.int .i64 (d1.2.1), Value.slice p1_A2 (d1.2.2.length) (p1_c2)].toArray 42 (0, 0))), (0, mout (wm W) (m0))] 15 [(0, true), (1, true), (2, true), (3, true), (4, true), (5, true), (6, true), (7, true), (8, true), (10, true), (11, true), (9, false), (12, true), (13, false), (14, false)] follows (by kernel_rfl) (fun _ h => h.sub [230, 227, 228, 223, 200, 105, 102, 0]) ?_
              refine VD.y rfl rfl (.inl rfl) (.mv rfl) ?_
              refine VD.y rfl rfl (.inl rfl) (.mv rfl) ?_
              refine VD.y rfl rfl (.inl rfl) (.nilp rfl) ?_
              refine VD.y rfl rfl (.inl rfl) (.fa rfl tst58 rfl) ?_
              refine VD.y rfl rfl (.inl rfl) (.ld1 230 rfl tk56 rfl (cellsAt_one rfl rfl)) ?_
              refine VD.y rfl rfl (.inl rfl) (.mv rfl) ?_
              refine VD.y rfl rfl (.inl rfl) (.nilp rfl) ?_
              refine VD.y rfl rfl (.inl rfl) (.fa rfl tst58 rfl) ?_
              refine VD.y rfl rfl (.inl rfl) (.ld1 230 rfl tk56 rfl (cellsAt_one rfl rfl)) ?_
              refine VD.y rfl rfl (.inl rfl) (.mv rfl) ?_
              refine VD.y rfl rfl (.inl rfl) (.lenS rfl tsl22) ?_
              refine VD.callN 231 rfl rfl (.inl rfl) fnOk41 rfl (fun _ h => Inv.sbK [230, 227, 228, 223, 200, 105, 102, 0] h) (fun W hW => wLength_ok W (OwnL.rd (Ow.ownl q126_3 rfl mnil) (hW.at (i := 229) rfl) (mle_nil _))) (fun v131 m131 hv131 => ?_)
              subst hv131
              refine VD.y rfl rfl (.inl rfl) (.add rfl rfl rfl ⟨by exact fin1_wApp_ok, by exact fin1_wApp_ok⟩) ?_
              refine VD.bsl (cs := [Value.int .i64 ((lenW es_) + ((((fAppend [] ((cEncode d1).1)).1).length : Nat) : Int))]) 233 rfl rfl rfl tsl56 tz3 rfl rfl (fun _ h => Inv.sbK [230, 227, 228, 223, 200, 105, 102, 0] h) (fun g132 => ?_)
              obtain ⟨mo134, cs134, hM134, hA134, hC134⟩ := (Ow.ownl q126_3 rfl mnil)
              refine VD.app 229 rfl rfl rfl rfl tsl56 tz3 rfl rfl hM134 hA134 (.row 233 _ _ _ 1 1 _ _ Try.underlying56 rfl (cellsAt_one rfl rfl)) (by simp [Value.oneCell']) (by simp only [maxLen]; (exact fin1_wApp_ok)) (by exact fin1_wApp_ok) (by decide) (fun _ _ h => Inv.sbK [230, 227, 228, 223, 200, 105, 102, 0] h) (fun v134 m134 hN134 => ?_)
              have ho134 : OwnL (.int .i64) m134 mnil v134 (es_ ++ [((lenW es_) + ((((fAppend [] ((cEncode d1).1)).1).length : Nat) : Int))]) := OwnL.one hC134 hN134 (show Rd (.int .i64) _ [_] _ from ⟨rfl, by simp only [inK]; (exact fin1_wApp_ok)⟩)
              obtain ⟨A134, c134, rfl, l134, k134⟩ := ho134.slice
              simp only [maxLen] at k134
              refine VD.nil rfl ?_ rfl
              refine VO.y rfl (.nilp rfl) ?_
              refine VO.y rfl (.fa rfl tst58 rfl) ?_
              refine VO.store (k := 1) (c' := [Value.pointer (some ⟨gd_, 0, none⟩), Value.bool ((decide (¬ wWrong D_ br_ = 0)) || decide (¬ ((dWrite D_ 0 ((fAppend [] ((cEncode d1).1)).1)).2) = 0)), Value.slice q126_A2 ((l_ ++ [d1]).length) (q126_c2), Value.slice A134 ((es_ ++ [((lenW es_) + ((((fAppend [] ((cEncode d1).1)).1).length : Nat) : Int))]).length) (c134)]) 230 rfl rfl (.inr ⟨tk56, rfl⟩) rfl rfl rfl rfl rfl ?_
              refine VO.clsP 235 [230, 227, 228, 229] rfl (fun hg135 => (mkP_walWal (gd_, ((dWrite D_ 0 ((fAppend [] ((cEncode d1).1)).1)).1)) ((decide (¬ wWrong D_ br_ = 0)) || decide (¬ ((dWrite D_ 0 ((fAppend [] ((cEncode d1).1)).1)).2) = 0)) (l_ ++ [d1]) (es_ ++ [((lenW es_) + ((((fAppend [] ((cEncode d1).1)).1).length : Nat) : Int))]) hg135 q126_0 q126_2 (OwnL.ow ho134 rfl))) (fun mc135 ho135 => ?_)
              refine VO.kp [235, 200, 105, 102, 0] [(235, mc135), (200, m100), (105, m5), (102, mone g1 (.cells [Value.int .i64 (d1.1), Value.int .i64 (d1.2.1), Value.slice p1_A2 (d1.2.2.length) (p1_c2)].toArray 42 (0, 0))), (0, mout (wm W) (m0))] ?_
              refine VO.k14 0 1 3 4 5 6 7 8 9 13 21 31 38 49 ?_
              refine outN ?_
              refine VC.rs ?_
              refine VO.as ?_
              refine VO.k14 0 1 3 4 5 6 7 8 9 13 21 31 38 49 ?_
              refine VC.ret ?_
              refine ⟨_, _, res_run (rs := [.tmp 4]) rfl (.tmp rfl .nil), fun W_ hI => out_of (l := [mc135]) hI [235] rfl rfl (mle_refl _) (fun hS_ => ?_)⟩
              dsimp only [packV]
              have hm0_ : (((gd_, (wApp D_ br_ l_ d1).1.1), (wApp D_ br_ l_ d1).1.2.1, (wApp D_ br_ l_ d1).1.2.2, endsC (wApp D_ br_ l_ d1).1.2.2) : DwalWal) = ((gd_, ((dWrite D_ 0 ((fAppend [] ((cEncode d1).1)).1)).1)), (decide (¬ wWrong D_ br_ = 0)) || decide (¬ ((dWrite D_ 0 ((fAppend [] ((cEncode d1).1)).1)).2) = 0), l_ ++ [d1], es_ ++ [((lenW es_) + ((((fAppend [] ((cEncode d1).1)).1).length : Nat) : Int))]) := by first | rfl | (exact fin0_wApp_ok)
              refine ⟨?_, ?_⟩
              rotate_left
              · rw [hm0_]; exact (Ow.up ho135 (hS_.1 _ (.head _)))
              all_goals (first | rfl | (exact fin0_wApp_ok))
theorem fin0_wOpenY_ok {P : Prop} (h : P := by first | (rw [open_bad (by assumption)] <;> first | rfl | (simp [*]; done) | (have h6_ := wrong_six (by assumption); simp [h6_, *]; done) | (simp_all; done)) | (rw [open_whole (by assumption) (by assumption)] <;> first | rfl | (simp [*]; done) | (have h6_ := wrong_six (by assumption); simp [h6_, *]; done) | (simp_all; done)) | (rw [open_cutbad (by assumption) (by assumption) (by assumption)] <;> first | rfl | (simp [*]; done) | (have h6_ := wrong_six (by assumption); simp [h6_, *]; done) | (simp_all; done)) | (rw [open_sync (by assumption) (by assumption) (by assumption)] <;> first | rfl | (simp [*]; done) | (have h6_ := wrong_six (by assumption); simp [h6_, *]; done) | (simp_all; done))) : P := h
theorem wOpenY_ok (W : World) {m0 : Mem} (hm : mle (m0) (wm W)) {g0 : Nat} {d0 : DdiskDisk} (h0 : Ow (.ptr TdiskDisk) m0 [.pointer (some ⟨g0, 0, none⟩)] (g0, d0)) (e0 : okD d0) (e1 : wD d0 + 3000 ≤ 1000000000000) (e2 : (wOpen d0).2 = 0) : CallR Try.prog 15 [.pointer (some ⟨g0, 0, none⟩)] W (m0) (fun v m' => ∃ (s0 : Nat), v = .tuple #[.pointer (some ⟨s0, 0, none⟩), .int .i64 (0)] ∧ Ow (.ptr TwalWal) m' [.pointer (some ⟨s0, 0, none⟩)] (s0, ((g0, (wOpen d0).1), false, (wLog d0).1, endsC (wLog d0).1))) := by
 refine CallR.ofB (n := 46) hm Try.func15 rfl rfl rfl ?_
 refine VC.rs (VO.as (VO.as (VO.k3 0 2 3 (VC.rs (VO.mv ?_)))))
 refine VO.call 1 rfl fnOk36 rfl rfl (fun W hW => dRead_ok W (hW.at (i := 1) rfl) h0 0 bdk (by assumption) bd) (fun v1 m1 hv1 => ?_)
 obtain ⟨s1_0, p1_0, p1_1, rfl, hS1, f1_0, w1_0⟩ := hv1
 refine VO.inv _ (fun _ h => h.parts (i := 1) rfl hS1 [102, 103]) ?_
 have hfa4 := (read_size d0 0)
 obtain ⟨A1_0, c1_0, eq1_0, l1_0, k1_0⟩ := f1_0.slice
 subst eq1_0
 simp only [maxLen] at k1_0
 refine VO.mv (VO.y rfl (.ext rfl rfl) (VO.y rfl (.ext rfl rfl) (VO.as (VO.as (VO.k5 0 2 3 4 5 (VC.seq (VC.rs (VO.mv (VO.y rfl (.neq rfl rfl) ?_)))))))))
 refine VO.kp [102, 103, 0] [(102, p1_0), (103, p1_1), (0, mout (wm W) (m0))] ?_
 refine VO.k6 0 2 3 4 5 17 ?_
 refine VC.cond rfl (fun hc5 => ?_) (fun hc5 => ?_)
 rw [open_bad hc5] at e2; exact absurd e2 hc5
 refine VC.skip (outN (VC.rs (VO.mv ?_)))
 refine VO.callN 106 rfl fnOk40 rfl (fun W hW => wScanE_ok W (OwnL.rd (Ow.ownl f1_0 rfl mnil) (hW.at (i := 102) rfl) (mle_nil _)) bd) (fun v6 m6 hv6 => ?_)
 obtain ⟨s6_0, s6_1, p6_0, p6_1, rfl, hS6, f6_0, f6_1⟩ := hv6
 refine VO.inv _ (fun _ h => h.parts (i := 106) rfl hS6 [107, 108]) ?_
 have hfa9 := log_bounds ((dRead d0 0).1)
 obtain ⟨A6_0, c6_0, eq6_0, l6_0, k6_0⟩ := f6_0.slice
 subst eq6_0
 simp only [maxLen] at k6_0
 obtain ⟨A6_1, c6_1, eq6_1, l6_1, k6_1⟩ := f6_1.slice
 subst eq6_1
 simp only [maxLen] at k6_1
 refine VO.mv (VO.y rfl (.ext rfl rfl) (VO.y rfl (.ext rfl rfl) (VO.as (VO.as (VO.k8 0 2 3 4 5 6 7 17 (VC.seq (VC.rs (VO.mv ?_))))))))
 refine VO.callN 110 rfl fnOk41 rfl (fun W hW => wLength_ok W (OwnL.rd (Ow.ownl f6_1 rfl mnil) (hW.at (i := 108) rfl) (mle_nil _))) (fun v10 m10 hv10 => ?_)
 subst hv10
 refine VO.as (VO.k9 0 2 3 4 5 6 7 8 17 (VC.rs (VO.mv (VO.mv ?_))))
 refine VO.y rfl (.lenS rfl tsl22) ?_
 refine VO.y rfl (.lss rfl rfl) ?_
 refine VO.kp [107, 108, 102, 103, 0] [(107, p6_0), (108, p6_1), (102, p1_0), (103, p1_1), (0, mout (wm W) (m0))] ?_
 refine VO.k10 0 2 3 4 5 6 7 8 17 29 ?_
 refine VC.cond rfl (fun hc11 => ?_) (fun hc11 => ?_)
 refine VC.seq (VC.rs (VO.mv (VO.mv ?_)))
 refine VO.call 103 rfl fnOk50 rfl rfl (fun W hW => dCut_ok W (hW.at (i := 103) rfl) w1_0 0 bdk (lenW (endsC (logF ((dRead d0 0).1)).1)) bdk (by assumption) bd) (fun v12 m12 hv12 => ?_)
 obtain ⟨rfl, w12_0⟩ := hv12
 have hfa13 := (cut_ok (f := 0) (n := (lenW (endsC (logF ((dRead d0 0).1)).1))) (show okD d0 by assumption))
 have hfa14 := (cut_w (f := 0) (n := (lenW (endsC (logF ((dRead d0 0).1)).1))) (show okD d0 by assumption))
 refine VO.as (VO.k11 0 2 3 4 5 6 7 8 9 17 29 (VC.rs (VO.mv (VO.y rfl (.neq rfl rfl) (VO.k12 0 2 3 4 5 6 7 8 9 17 29 34 ?_)))))
 refine VC.cond rfl (fun hc15 => ?_) (fun hc15 => ?_)
 rw [open_cutbad (by assumption) (by assumption) hc15] at e2; exact absurd e2 hc15
 refine VC.skip (outN (VC.rs (VO.mv ?_)))
 refine VO.call 103 rfl fnOk51 rfl rfl (fun W hW => dSync_ok W (hW.at (i := 103) rfl) w12_0 (by assumption) bd) (fun v16 m16 hv16 => ?_)
 obtain ⟨rfl, w16_0⟩ := hv16
 have hfa17 := (sync_ok (show okD ((dCut d0 0 (lenW (endsC (logF ((dRead d0 0).1)).1))).1) by assumption))
 have hfa18 := (sync_w (show okD ((dCut d0 0 (lenW (endsC (logF ((dRead d0 0).1)).1))).1) by assumption))
 refine VO.as ?_
 refine VO.kp [103, 107, 108, 102, 0] [(103, m16), (107, p6_0), (108, p6_1), (102, p1_0), (0, mout (wm W) (m0))] ?_
 refine VO.k13 0 2 3 4 5 6 7 8 9 10 17 29 34 (VC.rs (VO.mv (VO.y rfl (.neq rfl rfl) (VO.k14 0 2 3 4 5 6 7 8 9 10 17 29 34 39 ?_))))
 refine VC.cond rfl (fun hc19 => ?_) (fun hc19 => ?_)
 rw [open_sync (by assumption) (by assumption) (by assumption)] at e2; exact absurd e2 hc19
 · refine VC.skip (outN (VC.rs (VO.mv (VO.mv (VO.mv ?_)))))
   refine VO.y rfl (.bst (cs := [.pointer (some ⟨g0, 0, none⟩), .bool false, .slice A6_0 (((logF ((dRead d0 0).1)).1).length) (c6_0), .slice A6_1 ((endsC (logF ((dRead d0 0).1)).1).length) (c6_1)]) rfl tst58 tz58 rfl) ?_
   refine VO.box (cs := [.pointer (some ⟨g0, 0, none⟩), .bool false, .slice A6_0 (((logF ((dRead d0 0).1)).1).length) (c6_0), .slice A6_1 ((endsC (logF ((dRead d0 0).1)).1).length) (c6_1)]) 121 rfl rfl rfl (fun g20 => ?_)
   refine VO.as (VO.as (VO.k14 0 2 3 4 5 6 7 8 9 10 17 29 34 39 (VC.ret ?_)))
   refine ⟨_, _, res_run (rs := [.tmp 2, .tmp 3]) rfl (.tmp rfl (.tmp rfl .nil)), fun W_ hI => out_of (l := [mone g20 (.cells #[.pointer (some ⟨g0, 0, none⟩), .bool false, .slice A6_0 (((logF ((dRead d0 0).1)).1).length) (c6_0), .slice A6_1 ((endsC (logF ((dRead d0 0).1)).1).length) (c6_1)] 58 (0, 0)), m16, p6_0, p6_1]) hI [121, 103, 107, 108] rfl rfl (mle_refl _) (fun hS_ => ?_)⟩
   dsimp only [packV]
   have he0 : (((g0, (wOpen d0).1), false, (wLog d0).1, endsC (wLog d0).1) : DwalWal) = ((g0, (dSync ((dCut d0 0 (lenW (endsC (logF ((dRead d0 0).1)).1))).1)).1), false, (logF ((dRead d0 0).1)).1, endsC (logF ((dRead d0 0).1)).1) := by first | rfl | (exact fin0_wOpenY_ok)
   refine ⟨g20, ?_, ?_⟩
   rotate_left
   · rw [he0]; exact (mkP_walWal (g0, (dSync ((dCut d0 0 (lenW (endsC (logF ((dRead d0 0).1)).1))).1)).1) false ((logF ((dRead d0 0).1)).1) (endsC (logF ((dRead d0 0).1)).1) hS_ w16_0 f6_0 (OwnL.ow (Ow.ownl f6_1 rfl mnil) rfl))
   all_goals (first | rfl | (exact fin0_wOpenY_ok))
 · refine VC.skip (outN (VC.rs (VO.mv (VO.mv (VO.mv ?_)))))
   refine VO.y rfl (.bst (cs := [.pointer (some ⟨g0, 0, none⟩), .bool false, .slice A6_0 (((logF ((dRead d0 0).1)).1).length) (c6_0), .slice A6_1 ((endsC (logF ((dRead d0 0).1)).1).length) (c6_1)]) rfl tst58 tz58 rfl) ?_
   refine VO.box (cs := [.pointer (some ⟨g0, 0, none⟩), .bool false, .slice A6_0 (((logF ((dRead d0 0).1)).1).length) (c6_0), .slice A6_1 ((endsC (logF ((dRead d0 0).1)).1).length) (c6_1)]) 123 rfl rfl rfl (fun g22 => ?_)
   refine VO.as (VO.as (VO.k10 0 2 3 4 5 6 7 8 17 29 (VC.ret ?_)))
   refine ⟨_, _, res_run (rs := [.tmp 2, .tmp 3]) rfl (.tmp rfl (.tmp rfl .nil)), fun W_ hI => out_of (l := [mone g22 (.cells #[.pointer (some ⟨g0, 0, none⟩), .bool false, .slice A6_0 (((logF ((dRead d0 0).1)).1).length) (c6_0), .slice A6_1 ((endsC (logF ((dRead d0 0).1)).1).length) (c6_1)] 58 (0, 0)), p1_1, p6_0, p6_1]) hI [123, 103, 107, 108] rfl rfl (mle_refl _) (fun hS_ => ?_)⟩
   dsimp only [packV]
   have he0 : (((g0, (wOpen d0).1), false, (wLog d0).1, endsC (wLog d0).1) : DwalWal) = ((g0, d0), false, (logF ((dRead d0 0).1)).1, endsC (logF ((dRead d0 0).1)).1) := by first | rfl | (exact fin0_wOpenY_ok)
   refine ⟨g22, ?_, ?_⟩
   rotate_left
   · rw [he0]; exact (mkP_walWal (g0, d0) false ((logF ((dRead d0 0).1)).1) (endsC (logF ((dRead d0 0).1)).1) hS_ w1_0 f6_0 (OwnL.ow (Ow.ownl f6_1 rfl mnil) rfl))
   all_goals (first | rfl | (exact fin0_wOpenY_ok))
end
section
set_option linter.unusedVariables false
abbrev WAct := Dlaw12Act
def smallW (l : List WAct) : Prop := (∀ a ∈ l, a.2.2.2.2.2.length ≤ 60) ∧ l.length ≤ 60
instance (l : List WAct) : Decidable (smallW l) := by unfold smallW; infer_instance
def wBegins (l f : List DCommit) : Prop := f.length ≤ l.length ∧ l.take f.length = f
instance (l f : List DCommit) : Decidable (wBegins l f) := by unfold wBegins; infer_instance
end
section
set_option linter.unusedVariables false
section
variable {B : Bytes} {l : List DCommit} {a ep nn : Int}
theorem ok_of12 (h1 : ¬ ¬ (fRead B).2.2 = 0) (h2 : ¬ ¬ (cDecode (fRead B).1).2 = 0) (he : ep = lastOr 0 l) (hn : nn = l.length) (h3 : ¬ ¬ ((cFollows ep nn [(cDecode (fRead B).1).1]).1 = 0 ∧ (cFollows ep nn [(cDecode (fRead B).1).1]).2 = 0)) : logOk (lastOr 0 l) l.length B :=
  ⟨Decidable.not_not.1 h1, Decidable.not_not.1 h2, by rw [← he, ← hn]; exact (Decidable.not_not.1 h3).1⟩
theorem no_of3 (he : ep = lastOr 0 l) (hn : nn = l.length) (h3 : ¬ ((cFollows ep nn [(cDecode (fRead B).1).1]).1 = 0 ∧ (cFollows ep nn [(cDecode (fRead B).1).1]).2 = 0)) : ¬ logOk (lastOr 0 l) l.length B :=
  fun h => fol_ne h3 (by rw [he, hn]; exact h.2.2)
theorem num_next (h : logOk (lastOr 0 l) l.length B) : (cDecode (fRead B).1).1.2.1 = ((l ++ [(cDecode (fRead B).1).1]).length : Int) := by
  have := (follows_one h.2.2).2.1
  rw [this]; simp
theorem encOps_ge : ∀ {l : List DOp} {p : Bytes}, (∀ o ∈ l, opOk o) → 1 ≤ l.length → p = [] → 4 ≤ (encOps p l).length
  | o :: r, p, h, _, hp => by
    have ho := h o (.head _)
    subst hp
    have hs : shared [] o.2.1 = 0 := by unfold shared; cases o.2.1 <;> rfl
    have e : encOps [] (o :: r) = encOp [] o ++ encOps o.2.1 r := rfl
    have h1 : 4 ≤ (encOp [] o).length := by
      unfold encOp
      rw [hs]
      have h2 := venc_pos 0; have h3 := venc_pos (o.2.1.length - 0); have h4 := ho.1
      simp only [List.length_cons, List.length_append, List.drop_zero]
      omega
    rw [e, List.length_append]; omega
theorem cFrame_ge {c : DCommit} (h : cCheck c = 0) : 8 ≤ (cFrame c).length := by
  have h5 := (cCheck_zero h).2.2.2.2
  have hm := fun o => batchCheck_mem (o := o) h5
  have hl : 1 ≤ c.2.2.length := by
    unfold batchCheck at h5
    split at h5
    · cases h5
    · omega
  have h1 := encOps_ge hm hl rfl
  have h2 := venc_pos c.1.toNat; have h3 := venc_pos c.2.1.toNat; have h4 := venc_pos c.2.2.length
  have h6 : 7 ≤ (cEnc c).length := by
    unfold cEnc batchEnc
    simp only [List.length_append]; omega
  unfold cFrame fEnc
  have h7 := venc_pos (cEnc c).length
  simp only [List.length_append]; omega
theorem frames_ge8 : ∀ {s : List DCommit}, (∀ c ∈ s, cCheck c = 0) → 8 * s.length ≤ (cFrames s).length
  | [], _ => Nat.zero_le _
  | c :: s, h => by
    have h1 := cFrame_ge (h c (.head _))
    have h2 := frames_ge8 (s := s) fun x hx => h x (.tail _ hx)
    rw [cFrames_cons, List.length_append, List.length_cons]; omega
theorem log_room (B : Bytes) : 8 * (logF B).1.length ≤ B.length := by
  obtain ⟨h1, h2, h3, _⟩ := log_spec B
  have := frames_ge8 (cFollowsAt_ok h1)
  have := h3.length_le
  omega
theorem two_log_l (B : Bytes) : ∀ x ∈ ([(logF B).1, (logF B).1] : List (List DCommit)), x.length ≤ 3518437200000 := by
  have := (log_bounds B).2.2.1
  intro x hx
  have e : x = (logF B).1 := by simpa using hx
  subst e; omega
theorem two_log_a (hb : (B.length : Int) ≤ 4000) : ([(logF B).1, (logF B).1] : List (List DCommit)).flatten.length ≤ 1000 := by
  have := log_room B
  simp only [List.flatten_cons, List.flatten_nil, List.append_nil, List.length_append]; omega
theorem okL_rooms (h : okL l) : ∀ c ∈ l, c.2.2.length ≤ 3518437208800 ∧ ∀ o ∈ c.2.2, o.2.1.length ≤ 140737488400000 := by
  intro c hc
  have h5 := (cCheck_zero (okL_all h c hc)).2.2.2.2
  exact ⟨by have := batchCheck_ok h5; omega, fun o ho => by have := (batchCheck_mem h5 ho).2.1; omega⟩
theorem two_log_b (B : Bytes) : ∀ x ∈ ([(logF B).1, (logF B).1] : List (List DCommit)), ∀ c ∈ x, c.2.2.length ≤ 3518437208800 ∧ ∀ o ∈ c.2.2, o.2.1.length ≤ 140737488400000 := by
  have h := (log_bounds B).2.2.2.1
  intro x hx
  have e : x = (logF B).1 := by simpa using hx
  subst e; exact okL_rooms h
def fr1 : Bytes := [9, 1, 1, 1, 1, 0, 1, 97, 1, 49]
def fr2 : Bytes := [9, 1, 2, 1, 1, 0, 1, 97, 1, 49]
theorem frame1 : cFrame (ofC 1 1) = fr1 := by simp [cFrame, fEnc, cEnc, ofC, fr1, batchEnc, encOps, encOp, shared, venc_last]
theorem frame2 : cFrame (ofC 1 2) = fr2 := by simp [cFrame, fEnc, cEnc, ofC, fr2, batchEnc, encOps, encOp, shared, venc_last]
def lvD1 : DDisk := (true, false, false, 0, 1, ([], [], [], []), [(0, 0, fr1, 0)])
def lvD2 : DDisk := (true, false, false, 0, 2, ([], [], [], []), [(0, 0, fr1, 0), (0, 0, fr2, 0)])
theorem lv0 : wOpen newD = (newD, 0) := by decide +kernel
theorem lv0l : (wLog newD).1 = [] := by decide +kernel
theorem lv1 : wApp newD false [] (ofC 1 1) = ((lvD1, false, [ofC 1 1]), 0) := by
  rw [app_go (by decide) (by decide) (by decide), frame1]; decide +kernel
theorem lv3 : wApp lvD1 false [ofC 1 1] (ofC 1 3) = ((lvD1, false, [ofC 1 1]), 15) := by decide +kernel
theorem lv2 : wApp lvD1 false [ofC 1 1] (ofC 1 2) = ((lvD2, false, [ofC 1 1, ofC 1 2]), 0) := by
  rw [app_go (by decide) (by decide) (by decide), frame2]; decide +kernel
theorem lvw : lenW (endsC [ofC 1 1, ofC 1 2]) = 20 := by
  rw [lenW_ends]; simp [cFrames, frame1, frame2, fr1, fr2]
theorem lvp : (dPull lvD2).2 = 0 := by decide +kernel
theorem lvs : (dStart (dPull lvD2).1 1 4).2 = 0 := by decide +kernel
theorem lvo : (wOpen (dStart (dPull lvD2).1 1 4).1).2 = 0 := by decide +kernel
theorem lvl : (wLog (dStart (dPull lvD2).1 1 4).1).1 = [ofC 1 1] := by decide +kernel
theorem lvw1 : lenW (endsC [ofC 1 1]) = 10 := by rw [lenW_ends]; simp [cFrames, frame1, fr1]
theorem lvc2 : wCut lvD1 false [ofC 1 1] 2 = ((lvD1, false, [ofC 1 1]), 2) := by decide +kernel
theorem lvc0 : (wCut lvD1 false [ofC 1 1] 0).2 = 0 ∧ (wCut lvD1 false [ofC 1 1] 0).1.2.2 = [] := by decide +kernel
theorem lvs1 : logF [9, 1, 2, 1, 1, 0, 1, 97, 1, 49] = ([], 0) := by decide +kernel
theorem lvs2 : logF [9, 1, 1, 1, 1, 0, 1, 97, 1, 49, 3] = ([ofC 1 1], 10) := by decide +kernel
end
end
section
set_option linter.unusedVariables false
set_option linter.unusedSimpArgs false
set_option maxRecDepth 4000
theorem fnOk15 : fnOk Try.prog 15 = true := by kernel_rfl
theorem fnOk16 : fnOk Try.prog 16 = true := by kernel_rfl
theorem fnOk17 : fnOk Try.prog 17 = true := by kernel_rfl
theorem fnOk18 : fnOk Try.prog 18 = true := by kernel_rfl
theorem fnOk27 : fnOk Try.prog 27 = true := by kernel_rfl
theorem fnOk28 : fnOk Try.prog 28 = true := by kernel_rfl
theorem fnOk33 : fnOk Try.prog 33 = true := by kernel_rfl
theorem fnOk42 : fnOk Try.prog 42 = true := by kernel_rfl
theorem fnOk43 : fnOk Try.prog 43 = true := by kernel_rfl
theorem fnOk44 : fnOk Try.prog 44 = true := by kernel_rfl
theorem fin0_c12Scan_ok {P : Prop} (h : P := by first | exact congrArg Prod.fst (logAt_end hl (no_of0 (by assumption))) | (rw [logAt_end hl (no_of0 (by assumption))]; done) | exact congrArg Prod.fst (logAt_end hl (no_of1 (by assumption))) | (rw [logAt_end hl (no_of1 (by assumption))]; done) | exact congrArg Prod.fst (logAt_end hl (no_of3 hep hnn (by assumption))) | (rw [logAt_end hl (no_of3 hep hnn (by assumption))]; done)) : P := h
set_option maxHeartbeats 4000000 in
theorem c12Scan_ok (W : World) {v0 : Value} {d0 : List UInt8} (h0 : Rd (.sl .byte) (wm W) [v0] d0) (e0 : d0.length ≤ 140737488355000) : CallR Try.prog 11 [v0] W (mnil) (fun v m' => ∃ (s0 : Value), v = .tuple #[s0, .int .i64 ((logF d0).2)] ∧ Ow (.sl TCommit) m' [s0] ((logF d0).1)) := by
  obtain ⟨A0, c0, rfl, l0, k0⟩ := h0.slice
  simp only [maxLen] at k0
  refine CallR.ofA (n := 53) Try.func11 rfl rfl rfl ?_
  refine VC.rs ?_
  refine VO.as ?_
  refine VO.as ?_
  refine VO.k3 0 2 3 ?_
  refine VC.rs ?_
  refine VO.as ?_
  refine VO.k4 0 2 3 4 ?_
  refine VC.rs ?_
  refine VO.as ?_
  refine VO.kp [0] [(0, wm W)] ?_
  refine VO.k5 0 2 3 4 5 ?_
  refine VC.rs ?_
  refine VO.as ?_
  refine VO.as ?_
  refine VO.k7 0 2 3 4 5 6 7 ?_
  refine VC.block ?_
  refine VC.inv ((101, mnil) :: _) (fun _ h => h.nilc 101) ?_
  refine VC.loop (G := (List DCommit) × (Option Addr) × Nat × Mem × Int × Int × Int) (fun g => [(4, Value.slice (g.2.1) ((g.1).length) ((g.2.2.1))), (5, Value.int .i64 ((g.2.2.2.2.1))), (6, Value.int .i64 ((g.2.2.2.2.2.1))), (7, Value.int .i64 ((g.2.2.2.2.2.2))), (0, Value.slice A0 (d0.length) (c0))]) (fun g => [(101, (g.2.2.2.1)), (0, wm W)]) (fun g => (logAt d0 (g.1) (g.2.2.2.2.1)) ∧ ((g.2.2.2.2.2.1) = lastOr 0 (g.1)) ∧ ((g.2.2.2.2.2.2) = (g.1).length) ∧ (Ow (.sl TCommit) (g.2.2.2.1) [.slice (g.2.1) (g.1).length (g.2.2.1)] (g.1))) (fun g => ((d0.length : Int) - (g.2.2.2.2.1)).toNat) ([], none, 0, mnil, 0, 0, 0) (⟨by exact logAt_0 d0, by rfl, by rfl, (Ow.nil TCommit mnil)⟩) ⟨⟨rfl, rfl, rfl, rfl, rfl, trivial⟩, fun _ h => h.sub [101, 0]⟩ ?_
  rintro ⟨l, l_A, l_c, l_m, at_, ep, nn⟩ ⟨hl, hep, hnn, h_l⟩
  replace hl : logAt d0 l at_ := hl
  replace hep : ep = lastOr 0 l := hep
  replace hnn : nn = l.length := hnn
  replace h_l : Ow (.sl TCommit) l_m [.slice l_A l.length l_c] l := h_l
  show VC _ _ _ _ _ [(4, Value.slice l_A (l.length) (l_c)), (5, Value.int .i64 (at_)), (6, Value.int .i64 (ep)), (7, Value.int .i64 (nn)), (0, Value.slice A0 (d0.length) (c0))] [(101, l_m), (0, wm W)]
  have l_l : l.length ≤ l_c := by obtain ⟨_, _, he, hl, _⟩ := h_l.slice; simp only [Value.slice.injEq] at he; omega
  have k_l : l_c ≤ 9223372036854775807 := by obtain ⟨_, _, he, _, hl⟩ := h_l.slice; simp only [Value.slice.injEq, maxLen] at he hl; omega
  have hat1 := hl.2.1; have hat0 : 0 ≤ at_ := by have h_ := hl.1; omega
  have hrb := fRead_bounds (d0.drop at_.toNat)
  have hll := logAt_len hl
  have hlr := lastOr_range hl.2.2.1; rw [← hep] at hlr
  refine VC.block ?_
  refine VC.rs ?_
  refine VO.mv ?_
  refine VO.mv ?_
  obtain ⟨A2, hA2, hs2⟩ := h0.drop 1 ((at_).toNat) rfl bd
  refine VO.y rfl (.slLI ((at_).toNat) A2 rfl rfl tsl22 bd hA2 bd) ?_
  refine VO.callN 103 rfl fnOk42 rfl (fun W hW => f9Read_ok W (Rd.mono hs2 (hW.at (i := 0) rfl))) (fun v3 m3 hv3 => ?_)
  obtain ⟨s3_0, rfl, f3_0⟩ := hv3
  have hfa4 := fRead_bounds (d0.drop ((at_).toNat))
  obtain ⟨A3_0, c3_0, eq3_0, l3_0, k3_0⟩ := f3_0.slice
  subst eq3_0
  simp only [maxLen] at k3_0
  refine VO.mv ?_
  refine VO.y rfl (.ext rfl rfl) ?_
  refine VO.y rfl (.ext rfl rfl) ?_
  refine VO.y rfl (.ext rfl rfl) ?_
  refine VO.as ?_
  refine VO.as ?_
  refine VO.as ?_
  refine VO.k8 0 4 5 6 7 8 9 10 ?_
  refine VC.seq ?_
  refine VC.rs ?_
  refine VO.mv ?_
  refine VO.y rfl (.neq rfl rfl) ?_
  refine VO.kp [103, 101, 0] [(103, m3), (101, l_m), (0, wm W)] ?_
  refine VO.k9 0 4 5 6 7 8 9 10 21 ?_
  refine VC.cond rfl (fun hc5 => ?_) (fun hc5 => ?_)
  · -- T
    refine VC.rs ?_
    refine VO.mv ?_
    refine VO.mv ?_
    refine VO.as ?_
    refine VO.as ?_
    refine VO.k11 0 2 3 4 5 6 7 8 9 10 21 ?_
    refine VC.ret ?_
    refine outR ?_
    refine outBR ?_
    refine outR ?_
    refine outBR ?_
    refine ⟨_, _, res_run (rs := [.tmp 2, .tmp 3]) rfl (.tmp rfl (.tmp rfl .nil)), fun W_ hI => out_of (l := [l_m]) hI [101] rfl rfl (mle_refl _) (fun hS_ => ?_)⟩
    dsimp only [packV]
    have he0 : ((logF d0).1 : Ty.Den (.sl TCommit)) = l := by first | rfl | (exact fin0_c12Scan_ok)
    refine ⟨Value.slice l_A (l.length) (l_c), ?_, ?_⟩
    rotate_left
    · rw [he0]; exact (Ow.up h_l (hS_.1 _ (.head _)))
    all_goals (first | rfl | (exact fin0_c12Scan_ok))
  · -- F
    refine VC.skip ?_
    refine outN ?_
    refine VC.rs ?_
    refine VO.mv ?_
    refine VO.callN 106 rfl fnOk43 rfl (fun W hW => c4Decode_ok W (OwnL.rd (Ow.ownl f3_0 rfl mnil) (hW.at (i := 103) rfl) (mle_nil _))) (fun v6 m6 hv6 => ?_)
    obtain ⟨s6_0, rfl, f6_0⟩ := hv6
    have hfa7 := cDecode_fits ((fRead (d0.drop ((at_).toNat))).1)
    obtain ⟨q6_0_A2, q6_0_c2, q6_0_n2, rfl, q6_0_S, q6_0_0, q6_0_1, q6_0_2⟩ := openO_Commit (x0 := ((cDecode ((fRead (d0.drop ((at_).toNat))).1)).1).1) (x1 := ((cDecode ((fRead (d0.drop ((at_).toNat))).1)).1).2.1) (x2 := ((cDecode ((fRead (d0.drop ((at_).toNat))).1)).1).2.2) f6_0
    simp only [inK] at q6_0_0
    simp only [inK] at q6_0_1
    have q6_0_r2 := q6_0_2.rm
    refine VO.inv _ (fun _ h => h.parts (i := 106) rfl q6_0_S [108]) ?_
    refine VO.mv ?_
    refine VO.y rfl (.ext rfl rfl) ?_
    refine VO.y rfl (.ext rfl rfl) ?_
    refine VO.alloc 110 rfl tz42 (fun g9 => ?_)
    refine VO.store (k := 3) (c' := [Value.int .i64 (((cDecode ((fRead (d0.drop ((at_).toNat))).1)).1).1), Value.int .i64 (((cDecode ((fRead (d0.drop ((at_).toNat))).1)).1).2.1), Value.slice q6_0_A2 ((((cDecode ((fRead (d0.drop ((at_).toNat))).1)).1).2.2).length) (q6_0_c2)]) 110 rfl rfl (.inl tk42) rfl rfl rfl rfl rfl ?_
    refine VO.as ?_
    refine VO.k10 0 4 5 6 7 8 9 10 11 21 ?_
    refine VC.seq ?_
    refine VC.rs ?_
    refine VO.mv ?_
    refine VO.y rfl (.neq rfl rfl) ?_
    refine VO.mv ?_
    refine VO.dec (t := 31) rfl (fun hc11 => ?_) (fun hc11 => ?_)
    · -- FT
      refine VO.gN ?_
      refine VO.gN ?_
      refine VO.gN ?_
      refine VO.gN ?_
      refine VO.gN ?_
      refine VO.gN ?_
      refine VO.gN ?_
      refine VO.y rfl (.pT rfl rfl) ?_
      refine VO.k11 0 4 5 6 7 8 9 10 11 21 39 ?_
      refine VC.condT rfl ?_
      refine VC.rs ?_
      refine VO.mv ?_
      refine VO.mv ?_
      refine VO.as ?_
      refine VO.as ?_
      refine VO.kp [110, 108, 103, 101, 0] [(110, mone g9 (.cells [Value.int .i64 (((cDecode ((fRead (d0.drop ((at_).toNat))).1)).1).1), Value.int .i64 (((cDecode ((fRead (d0.drop ((at_).toNat))).1)).1).2.1), Value.slice q6_0_A2 ((((cDecode ((fRead (d0.drop ((at_).toNat))).1)).1).2.2).length) (q6_0_c2)].toArray 42 (0, 0))), (108, q6_0_n2), (103, m3), (101, l_m), (0, wm W)] ?_
      refine VO.k13 0 2 3 4 5 6 7 8 9 10 11 21 39 ?_
      refine VC.ret ?_
      refine outR ?_
      refine outBR ?_
      refine outR ?_
      refine outBR ?_
      refine ⟨_, _, res_run (rs := [.tmp 2, .tmp 3]) rfl (.tmp rfl (.tmp rfl .nil)), fun W_ hI => out_of (l := [l_m]) hI [101] rfl rfl (mle_refl _) (fun hS_ => ?_)⟩
      dsimp only [packV]
      have he0 : ((logF d0).1 : Ty.Den (.sl TCommit)) = l := by first | rfl | (exact fin0_c12Scan_ok)
      refine ⟨Value.slice l_A (l.length) (l_c), ?_, ?_⟩
      rotate_left
      · rw [he0]; exact (Ow.up h_l (hS_.1 _ (.head _)))
      all_goals (first | rfl | (exact fin0_c12Scan_ok))
    · -- FF
      refine VO.gy rfl ⟨_, rfl, rfl⟩ (.mv rfl) ?_
      refine VO.gy rfl ⟨_, rfl, rfl⟩ (.mv rfl) ?_
      refine VO.gy rfl ⟨_, rfl, rfl⟩ (.ldA 110 rfl tk42 rfl (cellsAt_one rfl rfl)) ?_
      refine VO.gbsl (cs := [Value.int .i64 (((cDecode ((fRead (d0.drop ((at_).toNat))).1)).1).1), Value.int .i64 (((cDecode ((fRead (d0.drop ((at_).toNat))).1)).1).2.1), Value.slice q6_0_A2 ((((cDecode ((fRead (d0.drop ((at_).toNat))).1)).1).2.2).length) (q6_0_c2)]) 113 rfl ⟨_, rfl, rfl⟩ rfl tsl25 tz42 rfl rfl (fun g12 => ?_)
      refine VO.gather (l := [mone g12 (.cells [Value.int .i64 (((cDecode ((fRead (d0.drop ((at_).toNat))).1)).1).1), Value.int .i64 (((cDecode ((fRead (d0.drop ((at_).toNat))).1)).1).2.1), Value.slice q6_0_A2 ((((cDecode ((fRead (d0.drop ((at_).toNat))).1)).1).2.2).length) (q6_0_c2)].toArray 42 (0, 0)), q6_0_n2]) 116 [113, 108] rfl (fun hg15 => ?_)
      have ho15 : Ow (.sl TCommit) (muns [mone g12 (.cells [Value.int .i64 (((cDecode ((fRead (d0.drop ((at_).toNat))).1)).1).1), Value.int .i64 (((cDecode ((fRead (d0.drop ((at_).toNat))).1)).1).2.1), Value.slice q6_0_A2 ((((cDecode ((fRead (d0.drop ((at_).toNat))).1)).1).2.2).length) (q6_0_c2)].toArray 42 (0, 0)), q6_0_n2]) [Value.slice (some ⟨g12, 0, none⟩) (1) (1)] [((cDecode ((fRead (d0.drop ((at_).toNat))).1)).1)] := Ow.lit 1 (Seps.grp1 (ls := [[q6_0_n2]]) hg15) (OwAs.cons (m := muns [q6_0_n2]) (c1 := [Value.int .i64 (((cDecode ((fRead (d0.drop ((at_).toNat))).1)).1).1), Value.int .i64 (((cDecode ((fRead (d0.drop ((at_).toNat))).1)).1).2.1), Value.slice q6_0_A2 ((((cDecode ((fRead (d0.drop ((at_).toNat))).1)).1).2.2).length) (q6_0_c2)]) (show Ow TCommit _ _ ((cDecode ((fRead (d0.drop ((at_).toNat))).1)).1) from (mkO_Commit (((cDecode ((fRead (d0.drop ((at_).toNat))).1)).1).1) (((cDecode ((fRead (d0.drop ((at_).toNat))).1)).1).2.1) (((cDecode ((fRead (d0.drop ((at_).toNat))).1)).1).2.2) (Seps.self hg15 (List.Sublist.cons _ (List.Sublist.cons_cons _ List.Sublist.slnil))) bdk bdk (OwnL.ow (Ow.ownl q6_0_2 rfl mnil) rfl))) OwAs.nil) rfl rfl
      refine VO.gcallN 114 rfl ⟨_, rfl, rfl⟩ fnOk44 rfl (fun W hW => c4Follows_ok W ep bdk nn bdk (Ow.rd ho15 (hW.at (i := 116) rfl))) (fun v14 m14 hv14 => ?_)
      obtain ⟨s14_0, rfl, f14_0⟩ := hv14
      obtain ⟨rfl, q14_0_0, q14_0_1⟩ := open_Fault (x0 := (cFollows ep nn ([((cDecode ((fRead (d0.drop ((at_).toNat))).1)).1)])).1) (x1 := (cFollows ep nn ([((cDecode ((fRead (d0.drop ((at_).toNat))).1)).1)])).2) (f14_0.rd (mle_refl _))
      simp only [inK] at q14_0_0
      simp only [inK] at q14_0_1
      refine VO.parts 116 [113, 108] rfl hg15 ?_
      refine VO.gy rfl ⟨_, rfl, rfl⟩ (.bst (cs := [Value.int .i64 (0), Value.int .i64 (0)]) rfl tst69 tz69 rfl) ?_
      refine VO.gy rfl ⟨_, rfl, rfl⟩ (.stneq (p := ((cFollows ep nn ([((cDecode ((fRead (d0.drop ((at_).toNat))).1)).1)])).1) = 0 ∧ ((cFollows ep nn ([((cDecode ((fRead (d0.drop ((at_).toNat))).1)).1)])).2) = 0) rfl rfl (teq69 ((cFollows ep nn ([((cDecode ((fRead (d0.drop ((at_).toNat))).1)).1)])).1) ((cFollows ep nn ([((cDecode ((fRead (d0.drop ((at_).toNat))).1)).1)])).2)) (teq69 0 0) (by simp [ceq, ba_toList])) ?_
      refine VO.y rfl (.pF rfl rfl) ?_
      refine VO.k11 0 4 5 6 7 8 9 10 11 21 39 ?_
      refine VC.cond rfl (fun hc17 => ?_) (fun hc17 => ?_)
      · -- FFT
        refine VC.rs ?_
        refine VO.mv ?_
        refine VO.mv ?_
        refine VO.as ?_
        refine VO.as ?_
        refine VO.kp [108, 110, 103, 101, 0] [(108, q6_0_n2), (110, mone g9 (.cells [Value.int .i64 (((cDecode ((fRead (d0.drop ((at_).toNat))).1)).1).1), Value.int .i64 (((cDecode ((fRead (d0.drop ((at_).toNat))).1)).1).2.1), Value.slice q6_0_A2 ((((cDecode ((fRead (d0.drop ((at_).toNat))).1)).1).2.2).length) (q6_0_c2)].toArray 42 (0, 0))), (103, m3), (101, l_m), (0, wm W)] ?_
        refine VO.k13 0 2 3 4 5 6 7 8 9 10 11 21 39 ?_
        refine VC.ret ?_
        refine outR ?_
        refine outBR ?_
        refine outR ?_
        refine outBR ?_
        refine ⟨_, _, res_run (rs := [.tmp 2, .tmp 3]) rfl (.tmp rfl (.tmp rfl .nil)), fun W_ hI => out_of (l := [l_m]) hI [101] rfl rfl (mle_refl _) (fun hS_ => ?_)⟩
        dsimp only [packV]
        have he0 : ((logF d0).1 : Ty.Den (.sl TCommit)) = l := by first | rfl | (exact fin0_c12Scan_ok)
        refine ⟨Value.slice l_A (l.length) (l_c), ?_, ?_⟩
        rotate_left
        · rw [he0]; exact (Ow.up h_l (hS_.1 _ (.head _)))
        all_goals (first | rfl | (exact fin0_c12Scan_ok))
      · -- FFF
        refine VC.skip ?_
        refine outN ?_
        refine VC.rs ?_
        refine VO.mv ?_
        refine VO.y rfl (.ldA 110 rfl tk42 rfl (cellsAt_one rfl rfl)) ?_
        refine VO.bsl (cs := [Value.int .i64 (((cDecode ((fRead (d0.drop ((at_).toNat))).1)).1).1), Value.int .i64 (((cDecode ((fRead (d0.drop ((at_).toNat))).1)).1).2.1), Value.slice q6_0_A2 ((((cDecode ((fRead (d0.drop ((at_).toNat))).1)).1).2.2).length) (q6_0_c2)]) 119 rfl rfl tsl25 tz42 rfl rfl (fun g18 => ?_)
        refine VO.appO (e := TCommit) 101 108 119 rfl rfl rfl tsl25 tz42 rfl rfl rfl rfl h_l (show Ow TCommit _ _ ((cDecode ((fRead (d0.drop ((at_).toNat))).1)).1) from (mkO_Commit (((cDecode ((fRead (d0.drop ((at_).toNat))).1)).1).1) (((cDecode ((fRead (d0.drop ((at_).toNat))).1)).1).2.1) (((cDecode ((fRead (d0.drop ((at_).toNat))).1)).1).2.2) (Seps.one (mle_refl _)) bdk bdk (OwnL.ow (Ow.ownl q6_0_2 rfl mnil) rfl))) Try.underlying25 (cellsAt_one rfl rfl) bdm bd (by decide) (fun v20 m20 ho20 => ?_)
        obtain ⟨A20, c20, rfl, l20, k20⟩ := ho20.slice
        simp only [maxLen] at k20
        refine VO.as ?_
        refine VO.kp [101, 110, 103, 0] [(101, m20), (110, mone g9 (.cells [Value.int .i64 (((cDecode ((fRead (d0.drop ((at_).toNat))).1)).1).1), Value.int .i64 (((cDecode ((fRead (d0.drop ((at_).toNat))).1)).1).2.1), Value.slice q6_0_A2 ((((cDecode ((fRead (d0.drop ((at_).toNat))).1)).1).2.2).length) (q6_0_c2)].toArray 42 (0, 0))), (103, m3), (0, wm W)] ?_
        refine VO.k11 0 4 5 6 7 8 9 10 11 21 39 ?_
        refine VC.seq ?_
        refine VC.regD _ 5 [(0, true), (1, true), (2, true), (3, true), (4, true)] follows (by kernel_rfl) (fun _ h => h.sub [101, 110, 103, 0]) ?_
        refine VD.y rfl rfl (.inl rfl) (.fa rfl tst42 rfl) ?_
        refine VD.y rfl rfl (.inl rfl) (.ld1 110 rfl tk3 rfl (cellsAt_one rfl rfl)) ?_
        refine VD.y rfl rfl (.inl rfl) (.fa rfl tst42 rfl) ?_
        refine VD.y rfl rfl (.inl rfl) (.ld1 110 rfl tk3 rfl (cellsAt_one rfl rfl)) ?_
        refine VD.y rfl rfl (.inl rfl) (.as rfl) ?_
        refine VD.nil rfl ?_ rfl
        refine VO.as ?_
        refine VO.k11 0 4 5 6 7 8 9 10 11 21 39 ?_
        refine outN ?_
        refine VC.reg ?_
        refine VO.mv ?_
        refine VO.mv ?_
        refine VO.y rfl (.add rfl rfl rfl ⟨bd, bd⟩) ?_
        refine VO.as ?_
        refine VO.k11 0 4 5 6 7 8 9 10 11 21 39 ?_
        refine outBN ?_
        exact outN ⟨⟨l ++ [((cDecode ((fRead (d0.drop ((at_).toNat))).1)).1)], A20, c20, m20, at_ + ((fRead (d0.drop ((at_).toNat))).2.1), ((cDecode ((fRead (d0.drop ((at_).toNat))).1)).1).1, ((cDecode ((fRead (d0.drop ((at_).toNat))).1)).1).2.1⟩, ⟨by exact logAt_next hl (ok_of12 (by assumption) (by assumption) hep hnn (by assumption)), by exact lastOr_snoc.symm, by exact num_next (ok_of12 (by assumption) (by assumption) hep hnn (by assumption)), ho20⟩, by (have h_ := ok_pos (ok_of12 (by assumption) (by assumption) hep hnn (by assumption)); simp only [List.length_drop] at *; omega), ⟨⟨rfl, rfl, rfl, rfl, rfl, trivial⟩, fun _ h => Inv.sub h [101, 0]⟩⟩
theorem put12_ok (W : World) (d0 : Int) (h0 : inK .i64 d0) (d1 : Int) (h1 : inK .i64 d1) : CallR Try.prog 18 [.int .i64 d0, .int .i64 d1] W (mnil) (fun v m' => ∃ (s0 : List Value), v = .agg s0.toArray ∧ Ow TCommit m' s0 (ofC d0 d1)) := by
 have h0' := h0; simp only [inK] at h0'
 have h1' := h1; simp only [inK] at h1'
 refine CallR.ofA (n := 10) Try.func18 rfl rfl rfl ?_
 refine VC.rs ?_
 refine VO.alloc 102 rfl tz42 (fun g1 => ?_)
 refine VO.k3 0 1 4 (VC.rs (VO.mv (VO.mv ?_)))
 refine VO.y rfl (.bst (cs := [.bool true, str ([97]), str ([49])]) rfl tst95 tz95 rfl) ?_
 refine VO.bsl (cs := [Value.bool true, str ([97]), str ([49])]) 104 rfl rfl tsl40 tz95 rfl rfl (fun g3 => ?_)
 refine VO.y rfl (.bst (cs := [.int .i64 (d0), .int .i64 (d1), .slice (some ⟨g3, 0, none⟩) (1) (1)]) rfl tst42 tz42 rfl) ?_
 refine VO.store (k := 3) (c' := [Value.int .i64 (d0), Value.int .i64 (d1), Value.slice (some ⟨g3, 0, none⟩) (1) (1)]) 102 rfl rfl (.inl tk42) rfl rfl rfl rfl rfl ?_
 refine VO.k3 0 1 4 (VC.ret ?_)
 have ho5 : OwnL TOp (mone g3 (.cells [Value.bool true, str ([97]), str ([49])].toArray 95 (0, 0))) mnil (Value.slice (some ⟨g3, 0, none⟩) (1) (1)) [(true, [97], [49])] := OwnL.lit 1 (All2c.cons (c1 := [Value.bool true, str ([97]), str ([49])]) (mk_Op (m := _) true ([97]) ([49]) bdm bdm) All2c.nil) rfl rfl
 refine ⟨_, _, res_run (rs := [.cell 4 42]) rfl (.agg 102 rfl tk42 rfl ⟨_, _, _, mone_self _ _, Nat.le_of_ble_eq_true rfl, rfl⟩ .nil), fun W_ hI => out_of (l := [mone g3 (.cells #[.bool true, str ([97]), str ([49])] 95 (0, 0))]) hI [104] rfl rfl (mle_refl _) (fun hS_ => ?_)⟩
 dsimp only [packV]
 have he0 : (ofC d0 d1 : Ty.Den TCommit) = (d0, d1, [(true, [97], [49])]) := by first | rfl | (simp [*]; done)
 refine ⟨[Value.int .i64 (d0), Value.int .i64 (d1), Value.slice (some ⟨g3, 0, none⟩) (1) (1)], ?_, ?_⟩
 rotate_left
 · rw [he0]; exact (mkO_Commit d0 d1 ([(true, [97], [49])]) hS_ bdk bdk (OwnL.ow ho5 rfl))
 all_goals (first | rfl | (simp [*]; done))
set_option maxHeartbeats 4000000 in
theorem lives12_ok (W : World) : CallR Try.prog 8 [] W (mnil) (fun v m' => v = .bool true) := by
  refine CallR.ofA (n := 70) Try.func8 rfl rfl rfl ?_
  refine VC.rs ?_
  refine VO.as ?_
  refine VO.k1 0 ?_
  refine VC.rs ?_
  refine VO.callN 101 rfl fnOk16 rfl (fun W hW => dNew_ok W ) (fun v1 m1 hv1 => ?_)
  obtain ⟨s1_0, rfl, f1_0⟩ := hv1
  have hfa2 := okD_new
  have hfa3 := (show wD newD = 0 from rfl)
  refine VO.as ?_
  refine VO.k2 0 1 ?_
  refine VC.rs ?_
  refine VO.mv ?_
  by_cases hsp4 : (wOpen newD).2 = 0
  · -- T
    refine VO.call 101 rfl fnOk15 rfl rfl (fun W hW => wOpenY_ok W (hW.at (i := 101) rfl) f1_0 (by assumption) (by first | (simp only [lv0, lv0l, lv1, lv2, lv3, lvw, lvw1, lvp, lvs, lvo, lvl, lvc2, lvc0.1, lvc0.2, lvs1, lvs2]; decide +kernel) | decide +kernel) (by assumption)) (fun v5 m5 hv5 => ?_)
    obtain ⟨s5_0, rfl, f5_0⟩ := hv5
    have hfa6 := (open_ok (show okD newD by assumption))
    have hfa7 := (open_w (show okD newD by assumption))
    have hfa8 := (log_bounds (dRead newD 0).1)
    have hfa9 := (okL_log newD)
    refine VO.mv ?_
    refine VO.y rfl (.ext rfl rfl) ?_
    refine VO.y rfl (.ext rfl rfl) ?_
    refine VO.as ?_
    refine VO.as ?_
    refine VO.kp [101, 0] [(101, m5), (0, wm W)] ?_
    refine VO.k4 0 1 2 3 ?_
    refine VC.seq ?_
    refine VC.rs ?_
    refine VO.mv ?_
    refine VO.y rfl (.neq rfl rfl) ?_
    refine VO.mv ?_
    refine VO.dec (t := 13) rfl (fun hc10 => ?_) (fun hc10 => ?_)
    · -- TT
      first | exact absurd rfl hc10 | exact absurd (by first | rfl | decide | (simp only [lv0, lv0l, lv1, lv2, lv3, lvw, lvw1, lvp, lvs, lvo, lvl, lvc2, lvc0.1, lvc0.2, lvs1, lvs2]; first | done | rfl | decide | omega)) hc10 | exact absurd hc10 (by first | decide | (simp only [lv0, lv0l, lv1, lv2, lv3, lvw, lvw1, lvp, lvs, lvo, lvl, lvc2, lvc0.1, lvc0.2, lvs1, lvs2]; first | done | rfl | decide | omega)) | (simp only [lv0, lv0l, lv1, lv2, lv3, lvw, lvw1, lvp, lvs, lvo, lvl, lvc2, lvc0.1, lvc0.2, lvs1, lvs2] at hc10; first | done | exact absurd hc10 (by decide) | exact absurd rfl hc10)
    · -- TF
      refine VO.gy rfl ⟨_, rfl, rfl⟩ (.mv rfl) ?_
      refine VO.gy rfl ⟨_, rfl, rfl⟩ (.pnil rfl rfl Try.underlying33 rfl) ?_
      refine VO.y rfl (.pF rfl rfl) ?_
      refine VO.mv ?_
      refine VO.gy rfl ⟨_, rfl, rfl⟩ (.mv rfl) ?_
      refine VO.gcallN 111 rfl ⟨_, rfl, rfl⟩ fnOk18 rfl (fun W hW => put12_ok W 1 bdk 1 bdk) (fun v11 m11 hv11 => ?_)
      obtain ⟨s11_0, rfl, f11_0⟩ := hv11
      obtain ⟨q11_0_A2, q11_0_c2, q11_0_n2, rfl, q11_0_S, q11_0_0, q11_0_1, q11_0_2⟩ := openO_Commit (x0 := (ofC 1 1).1) (x1 := (ofC 1 1).2.1) (x2 := (ofC 1 1).2.2) f11_0
      simp only [inK] at q11_0_0
      simp only [inK] at q11_0_1
      have q11_0_r2 := q11_0_2.rm
      refine VO.inv _ (fun _ h => h.parts (i := 111) rfl q11_0_S [112]) ?_
      refine VO.gcall 101 rfl ⟨_, rfl, rfl⟩ fnOk17 rfl rfl (fun W hW => wApp_ok W (hW.at (i := 101) rfl) f5_0 (show Rd TCommit _ _ (ofC 1 1) from (mk_Commit (m := mout (wm W) (m5)) ((ofC 1 1).1) ((ofC 1 1).2.1) ((ofC 1 1).2.2) bdk bdk (OwnL.rd (Ow.ownl q11_0_2 rfl mnil) (hW.out (i := 101) (j := 112) rfl rfl) (mle_nil _)))) (by assumption) (by first | (simp only [lv0, lv0l, lv1, lv2, lv3, lvw, lvw1, lvp, lvs, lvo, lvl, lvc2, lvc0.1, lvc0.2, lvs1, lvs2]; decide +kernel) | decide +kernel) (by assumption) (by first | assumption | rfl)) (fun v13 m13 hv13 => ?_)
      try dsimp only at hv13
      obtain ⟨rfl, w13_0⟩ := hv13
      have hfa14 := (app_ok (br := false) (l := ((wLog newD).1)) (c := (ofC 1 1)) (show okD ((wOpen newD).1) by assumption))
      have hfa15 := (app_w (br := false) (l := ((wLog newD).1)) (c := (ofC 1 1)) (show okD ((wOpen newD).1) by assumption))
      have hfa16 := (app_l (d := ((wOpen newD).1)) (br := false) (c := (ofC 1 1)) (show okL ((wLog newD).1) by assumption))
      refine VO.gy rfl ⟨_, rfl, rfl⟩ (.neq rfl rfl) ?_
      refine VO.y rfl (.pF rfl rfl) ?_
      refine VO.mv ?_
      refine VO.dec (t := 23) rfl (fun hc17 => ?_) (fun hc17 => ?_)
      · -- TFT
        first | exact absurd rfl hc17 | exact absurd (by first | rfl | decide | (simp only [lv0, lv0l, lv1, lv2, lv3, lvw, lvw1, lvp, lvs, lvo, lvl, lvc2, lvc0.1, lvc0.2, lvs1, lvs2]; first | done | rfl | decide | omega)) hc17 | exact absurd hc17 (by first | decide | (simp only [lv0, lv0l, lv1, lv2, lv3, lvw, lvw1, lvp, lvs, lvo, lvl, lvc2, lvc0.1, lvc0.2, lvs1, lvs2]; first | done | rfl | decide | omega)) | (simp only [lv0, lv0l, lv1, lv2, lv3, lvw, lvw1, lvp, lvs, lvo, lvl, lvc2, lvc0.1, lvc0.2, lvs1, lvs2] at hc17; first | done | exact absurd hc17 (by decide) | exact absurd rfl hc17)
      · -- TFF
        refine VO.gy rfl ⟨_, rfl, rfl⟩ (.mv rfl) ?_
        refine VO.gcallN 118 rfl ⟨_, rfl, rfl⟩ fnOk18 rfl (fun W hW => put12_ok W 1 bdk 3 bdk) (fun v18 m18 hv18 => ?_)
        obtain ⟨s18_0, rfl, f18_0⟩ := hv18
        obtain ⟨q18_0_A2, q18_0_c2, q18_0_n2, rfl, q18_0_S, q18_0_0, q18_0_1, q18_0_2⟩ := openO_Commit (x0 := (ofC 1 3).1) (x1 := (ofC 1 3).2.1) (x2 := (ofC 1 3).2.2) f18_0
        simp only [inK] at q18_0_0
        simp only [inK] at q18_0_1
        have q18_0_r2 := q18_0_2.rm
        refine VO.inv _ (fun _ h => h.parts (i := 118) rfl q18_0_S [119]) ?_
        refine VO.gcall 101 rfl ⟨_, rfl, rfl⟩ fnOk17 rfl rfl (fun W hW => wApp_ok W (hW.at (i := 101) rfl) w13_0 (show Rd TCommit _ _ (ofC 1 3) from (mk_Commit (m := mout (wm W) (m13)) ((ofC 1 3).1) ((ofC 1 3).2.1) ((ofC 1 3).2.2) bdk bdk (OwnL.rd (Ow.ownl q18_0_2 rfl mnil) (hW.out (i := 101) (j := 119) rfl rfl) (mle_nil _)))) (by assumption) (by first | (simp only [lv0, lv0l, lv1, lv2, lv3, lvw, lvw1, lvp, lvs, lvo, lvl, lvc2, lvc0.1, lvc0.2, lvs1, lvs2]; decide +kernel) | decide +kernel) (by assumption) (by first | assumption | rfl)) (fun v20 m20 hv20 => ?_)
        try dsimp only at hv20
        obtain ⟨rfl, w20_0⟩ := hv20
        have hfa21 := (app_ok (br := ((wApp ((wOpen newD).1) false ((wLog newD).1) (ofC 1 1)).1.2.1)) (l := ((wApp ((wOpen newD).1) false ((wLog newD).1) (ofC 1 1)).1.2.2)) (c := (ofC 1 3)) (show okD ((wApp ((wOpen newD).1) false ((wLog newD).1) (ofC 1 1)).1.1) by assumption))
        have hfa22 := (app_w (br := ((wApp ((wOpen newD).1) false ((wLog newD).1) (ofC 1 1)).1.2.1)) (l := ((wApp ((wOpen newD).1) false ((wLog newD).1) (ofC 1 1)).1.2.2)) (c := (ofC 1 3)) (show okD ((wApp ((wOpen newD).1) false ((wLog newD).1) (ofC 1 1)).1.1) by assumption))
        have hfa23 := (app_l (d := ((wApp ((wOpen newD).1) false ((wLog newD).1) (ofC 1 1)).1.1)) (br := ((wApp ((wOpen newD).1) false ((wLog newD).1) (ofC 1 1)).1.2.1)) (c := (ofC 1 3)) (show okL ((wApp ((wOpen newD).1) false ((wLog newD).1) (ofC 1 1)).1.2.2) by assumption))
        refine VO.gy rfl ⟨_, rfl, rfl⟩ (.neq rfl rfl) ?_
        refine VO.y rfl (.pF rfl rfl) ?_
        refine VO.mv ?_
        refine VO.dec (t := 29) rfl (fun hc24 => ?_) (fun hc24 => ?_)
        · -- TFFT
          first | exact absurd rfl hc24 | exact absurd (by first | rfl | decide | (simp only [lv0, lv0l, lv1, lv2, lv3, lvw, lvw1, lvp, lvs, lvo, lvl, lvc2, lvc0.1, lvc0.2, lvs1, lvs2]; first | done | rfl | decide | omega)) hc24 | exact absurd hc24 (by first | decide | (simp only [lv0, lv0l, lv1, lv2, lv3, lvw, lvw1, lvp, lvs, lvo, lvl, lvc2, lvc0.1, lvc0.2, lvs1, lvs2]; first | done | rfl | decide | omega)) | (simp only [lv0, lv0l, lv1, lv2, lv3, lvw, lvw1, lvp, lvs, lvo, lvl, lvc2, lvc0.1, lvc0.2, lvs1, lvs2] at hc24; first | done | exact absurd hc24 (by decide) | exact absurd rfl hc24)
        · -- TFFF
          refine VO.gy rfl ⟨_, rfl, rfl⟩ (.mv rfl) ?_
          refine VO.gcallN 125 rfl ⟨_, rfl, rfl⟩ fnOk18 rfl (fun W hW => put12_ok W 1 bdk 2 bdk) (fun v25 m25 hv25 => ?_)
          obtain ⟨s25_0, rfl, f25_0⟩ := hv25
          obtain ⟨q25_0_A2, q25_0_c2, q25_0_n2, rfl, q25_0_S, q25_0_0, q25_0_1, q25_0_2⟩ := openO_Commit (x0 := (ofC 1 2).1) (x1 := (ofC 1 2).2.1) (x2 := (ofC 1 2).2.2) f25_0
          simp only [inK] at q25_0_0
          simp only [inK] at q25_0_1
          have q25_0_r2 := q25_0_2.rm
          refine VO.inv _ (fun _ h => h.parts (i := 125) rfl q25_0_S [126]) ?_
          refine VO.gcall 101 rfl ⟨_, rfl, rfl⟩ fnOk17 rfl rfl (fun W hW => wApp_ok W (hW.at (i := 101) rfl) w20_0 (show Rd TCommit _ _ (ofC 1 2) from (mk_Commit (m := mout (wm W) (m20)) ((ofC 1 2).1) ((ofC 1 2).2.1) ((ofC 1 2).2.2) bdk bdk (OwnL.rd (Ow.ownl q25_0_2 rfl mnil) (hW.out (i := 101) (j := 126) rfl rfl) (mle_nil _)))) (by assumption) (by first | (simp only [lv0, lv0l, lv1, lv2, lv3, lvw, lvw1, lvp, lvs, lvo, lvl, lvc2, lvc0.1, lvc0.2, lvs1, lvs2]; decide +kernel) | decide +kernel) (by assumption) (by first | assumption | rfl)) (fun v27 m27 hv27 => ?_)
          try dsimp only at hv27
          obtain ⟨rfl, w27_0⟩ := hv27
          have hfa28 := (app_ok (br := ((wApp ((wApp ((wOpen newD).1) false ((wLog newD).1) (ofC 1 1)).1.1) ((wApp ((wOpen newD).1) false ((wLog newD).1) (ofC 1 1)).1.2.1) ((wApp ((wOpen newD).1) false ((wLog newD).1) (ofC 1 1)).1.2.2) (ofC 1 3)).1.2.1)) (l := ((wApp ((wApp ((wOpen newD).1) false ((wLog newD).1) (ofC 1 1)).1.1) ((wApp ((wOpen newD).1) false ((wLog newD).1) (ofC 1 1)).1.2.1) ((wApp ((wOpen newD).1) false ((wLog newD).1) (ofC 1 1)).1.2.2) (ofC 1 3)).1.2.2)) (c := (ofC 1 2)) (show okD ((wApp ((wApp ((wOpen newD).1) false ((wLog newD).1) (ofC 1 1)).1.1) ((wApp ((wOpen newD).1) false ((wLog newD).1) (ofC 1 1)).1.2.1) ((wApp ((wOpen newD).1) false ((wLog newD).1) (ofC 1 1)).1.2.2) (ofC 1 3)).1.1) by assumption))
          have hfa29 := (app_w (br := ((wApp ((wApp ((wOpen newD).1) false ((wLog newD).1) (ofC 1 1)).1.1) ((wApp ((wOpen newD).1) false ((wLog newD).1) (ofC 1 1)).1.2.1) ((wApp ((wOpen newD).1) false ((wLog newD).1) (ofC 1 1)).1.2.2) (ofC 1 3)).1.2.1)) (l := ((wApp ((wApp ((wOpen newD).1) false ((wLog newD).1) (ofC 1 1)).1.1) ((wApp ((wOpen newD).1) false ((wLog newD).1) (ofC 1 1)).1.2.1) ((wApp ((wOpen newD).1) false ((wLog newD).1) (ofC 1 1)).1.2.2) (ofC 1 3)).1.2.2)) (c := (ofC 1 2)) (show okD ((wApp ((wApp ((wOpen newD).1) false ((wLog newD).1) (ofC 1 1)).1.1) ((wApp ((wOpen newD).1) false ((wLog newD).1) (ofC 1 1)).1.2.1) ((wApp ((wOpen newD).1) false ((wLog newD).1) (ofC 1 1)).1.2.2) (ofC 1 3)).1.1) by assumption))
          have hfa30 := (app_l (d := ((wApp ((wApp ((wOpen newD).1) false ((wLog newD).1) (ofC 1 1)).1.1) ((wApp ((wOpen newD).1) false ((wLog newD).1) (ofC 1 1)).1.2.1) ((wApp ((wOpen newD).1) false ((wLog newD).1) (ofC 1 1)).1.2.2) (ofC 1 3)).1.1)) (br := ((wApp ((wApp ((wOpen newD).1) false ((wLog newD).1) (ofC 1 1)).1.1) ((wApp ((wOpen newD).1) false ((wLog newD).1) (ofC 1 1)).1.2.1) ((wApp ((wOpen newD).1) false ((wLog newD).1) (ofC 1 1)).1.2.2) (ofC 1 3)).1.2.1)) (c := (ofC 1 2)) (show okL ((wApp ((wApp ((wOpen newD).1) false ((wLog newD).1) (ofC 1 1)).1.1) ((wApp ((wOpen newD).1) false ((wLog newD).1) (ofC 1 1)).1.2.1) ((wApp ((wOpen newD).1) false ((wLog newD).1) (ofC 1 1)).1.2.2) (ofC 1 3)).1.2.2) by assumption))
          refine VO.gy rfl ⟨_, rfl, rfl⟩ (.neq rfl rfl) ?_
          refine VO.y rfl (.pF rfl rfl) ?_
          refine VO.mv ?_
          refine VO.dec (t := 35) rfl (fun hc31 => ?_) (fun hc31 => ?_)
          · -- TFFFT
            first | exact absurd rfl hc31 | exact absurd (by first | rfl | decide | (simp only [lv0, lv0l, lv1, lv2, lv3, lvw, lvw1, lvp, lvs, lvo, lvl, lvc2, lvc0.1, lvc0.2, lvs1, lvs2]; first | done | rfl | decide | omega)) hc31 | exact absurd hc31 (by first | decide | (simp only [lv0, lv0l, lv1, lv2, lv3, lvw, lvw1, lvp, lvs, lvo, lvl, lvc2, lvc0.1, lvc0.2, lvs1, lvs2]; first | done | rfl | decide | omega)) | (simp only [lv0, lv0l, lv1, lv2, lv3, lvw, lvw1, lvp, lvs, lvo, lvl, lvc2, lvc0.1, lvc0.2, lvs1, lvs2] at hc31; first | done | exact absurd hc31 (by decide) | exact absurd rfl hc31)
          · -- TFFFF
            refine VO.gy rfl ⟨_, rfl, rfl⟩ (.mv rfl) ?_
            refine VO.gcall 101 rfl ⟨_, rfl, rfl⟩ fnOk33 rfl rfl (fun W hW => wLen_ok W (hW.at (i := 101) rfl) w27_0) (fun v32 m32 hv32 => ?_)
            try dsimp only at hv32
            obtain ⟨rfl, w32_0⟩ := hv32
            refine VO.gy rfl ⟨_, rfl, rfl⟩ (.neq rfl rfl) ?_
            refine VO.y rfl (.pF rfl rfl) ?_
            refine VO.k5 0 1 2 3 39 ?_
            refine VC.cond rfl (fun hc33 => ?_) (fun hc33 => ?_)
            · -- TFFFFT
              first | exact absurd rfl hc33 | exact absurd (by first | rfl | decide | (simp only [lv0, lv0l, lv1, lv2, lv3, lvw, lvw1, lvp, lvs, lvo, lvl, lvc2, lvc0.1, lvc0.2, lvs1, lvs2]; first | done | rfl | decide | omega)) hc33 | exact absurd hc33 (by first | decide | (simp only [lv0, lv0l, lv1, lv2, lv3, lvw, lvw1, lvp, lvs, lvo, lvl, lvc2, lvc0.1, lvc0.2, lvs1, lvs2]; first | done | rfl | decide | omega)) | (simp only [lv0, lv0l, lv1, lv2, lv3, lvw, lvw1, lvp, lvs, lvo, lvl, lvc2, lvc0.1, lvc0.2, lvs1, lvs2] at hc33; first | done | exact absurd hc33 (by decide) | exact absurd rfl hc33)
            · -- TFFFFF
              refine VC.skip ?_
              refine outN ?_
              refine VC.seq ?_
              refine VC.rs ?_
              refine VO.mv ?_
              obtain ⟨q35_E, q35_A2, q35_c2, q35_A3, q35_c3, q35_n0, q35_n2, q35_n3, _, q35_S, q35_0, q35_2, q35_3⟩ := openP_walWal (x0 := (s1_0, ((wApp ((wApp ((wApp ((wOpen newD).1) false ((wLog newD).1) (ofC 1 1)).1.1) ((wApp ((wOpen newD).1) false ((wLog newD).1) (ofC 1 1)).1.2.1) ((wApp ((wOpen newD).1) false ((wLog newD).1) (ofC 1 1)).1.2.2) (ofC 1 3)).1.1) ((wApp ((wApp ((wOpen newD).1) false ((wLog newD).1) (ofC 1 1)).1.1) ((wApp ((wOpen newD).1) false ((wLog newD).1) (ofC 1 1)).1.2.1) ((wApp ((wOpen newD).1) false ((wLog newD).1) (ofC 1 1)).1.2.2) (ofC 1 3)).1.2.1) ((wApp ((wApp ((wOpen newD).1) false ((wLog newD).1) (ofC 1 1)).1.1) ((wApp ((wOpen newD).1) false ((wLog newD).1) (ofC 1 1)).1.2.1) ((wApp ((wOpen newD).1) false ((wLog newD).1) (ofC 1 1)).1.2.2) (ofC 1 3)).1.2.2) (ofC 1 2)).1.1))) (x1 := ((wApp ((wApp ((wApp ((wOpen newD).1) false ((wLog newD).1) (ofC 1 1)).1.1) ((wApp ((wOpen newD).1) false ((wLog newD).1) (ofC 1 1)).1.2.1) ((wApp ((wOpen newD).1) false ((wLog newD).1) (ofC 1 1)).1.2.2) (ofC 1 3)).1.1) ((wApp ((wApp ((wOpen newD).1) false ((wLog newD).1) (ofC 1 1)).1.1) ((wApp ((wOpen newD).1) false ((wLog newD).1) (ofC 1 1)).1.2.1) ((wApp ((wOpen newD).1) false ((wLog newD).1) (ofC 1 1)).1.2.2) (ofC 1 3)).1.2.1) ((wApp ((wApp ((wOpen newD).1) false ((wLog newD).1) (ofC 1 1)).1.1) ((wApp ((wOpen newD).1) false ((wLog newD).1) (ofC 1 1)).1.2.1) ((wApp ((wOpen newD).1) false ((wLog newD).1) (ofC 1 1)).1.2.2) (ofC 1 3)).1.2.2) (ofC 1 2)).1.2.1)) (x2 := ((wApp ((wApp ((wApp ((wOpen newD).1) false ((wLog newD).1) (ofC 1 1)).1.1) ((wApp ((wOpen newD).1) false ((wLog newD).1) (ofC 1 1)).1.2.1) ((wApp ((wOpen newD).1) false ((wLog newD).1) (ofC 1 1)).1.2.2) (ofC 1 3)).1.1) ((wApp ((wApp ((wOpen newD).1) false ((wLog newD).1) (ofC 1 1)).1.1) ((wApp ((wOpen newD).1) false ((wLog newD).1) (ofC 1 1)).1.2.1) ((wApp ((wOpen newD).1) false ((wLog newD).1) (ofC 1 1)).1.2.2) (ofC 1 3)).1.2.1) ((wApp ((wApp ((wOpen newD).1) false ((wLog newD).1) (ofC 1 1)).1.1) ((wApp ((wOpen newD).1) false ((wLog newD).1) (ofC 1 1)).1.2.1) ((wApp ((wOpen newD).1) false ((wLog newD).1) (ofC 1 1)).1.2.2) (ofC 1 3)).1.2.2) (ofC 1 2)).1.2.2)) (x3 := (endsC (wApp ((wApp ((wApp ((wOpen newD).1) false ((wLog newD).1) (ofC 1 1)).1.1) ((wApp ((wOpen newD).1) false ((wLog newD).1) (ofC 1 1)).1.2.1) ((wApp ((wOpen newD).1) false ((wLog newD).1) (ofC 1 1)).1.2.2) (ofC 1 3)).1.1) ((wApp ((wApp ((wOpen newD).1) false ((wLog newD).1) (ofC 1 1)).1.1) ((wApp ((wOpen newD).1) false ((wLog newD).1) (ofC 1 1)).1.2.1) ((wApp ((wOpen newD).1) false ((wLog newD).1) (ofC 1 1)).1.2.2) (ofC 1 3)).1.2.1) ((wApp ((wApp ((wOpen newD).1) false ((wLog newD).1) (ofC 1 1)).1.1) ((wApp ((wOpen newD).1) false ((wLog newD).1) (ofC 1 1)).1.2.1) ((wApp ((wOpen newD).1) false ((wLog newD).1) (ofC 1 1)).1.2.2) (ofC 1 3)).1.2.2) (ofC 1 2)).1.2.2)) w32_0
              dsimp only at q35_0
              have q35_r2 := q35_2.rm
              have q35_r3 := q35_3.rm
              refine VO.inv _ (fun _ h => h.parts (i := 101) rfl q35_S [139, 136, 137, 138]) ?_
              refine VO.call 136 rfl fnOk27 rfl rfl (fun W hW => dPull_ok W (hW.at (i := 136) rfl) q35_0 (by assumption)) (fun v34 m34 hv34 => ?_)
              obtain ⟨rfl, w34_0⟩ := hv34
              have hfa40 := (pull_ok (show okD ((wApp ((wApp ((wApp ((wOpen newD).1) false ((wLog newD).1) (ofC 1 1)).1.1) ((wApp ((wOpen newD).1) false ((wLog newD).1) (ofC 1 1)).1.2.1) ((wApp ((wOpen newD).1) false ((wLog newD).1) (ofC 1 1)).1.2.2) (ofC 1 3)).1.1) ((wApp ((wApp ((wOpen newD).1) false ((wLog newD).1) (ofC 1 1)).1.1) ((wApp ((wOpen newD).1) false ((wLog newD).1) (ofC 1 1)).1.2.1) ((wApp ((wOpen newD).1) false ((wLog newD).1) (ofC 1 1)).1.2.2) (ofC 1 3)).1.2.1) ((wApp ((wApp ((wOpen newD).1) false ((wLog newD).1) (ofC 1 1)).1.1) ((wApp ((wOpen newD).1) false ((wLog newD).1) (ofC 1 1)).1.2.1) ((wApp ((wOpen newD).1) false ((wLog newD).1) (ofC 1 1)).1.2.2) (ofC 1 3)).1.2.2) (ofC 1 2)).1.1) by assumption))
              have hfa41 := (pull_w ((wApp ((wApp ((wApp ((wOpen newD).1) false ((wLog newD).1) (ofC 1 1)).1.1) ((wApp ((wOpen newD).1) false ((wLog newD).1) (ofC 1 1)).1.2.1) ((wApp ((wOpen newD).1) false ((wLog newD).1) (ofC 1 1)).1.2.2) (ofC 1 3)).1.1) ((wApp ((wApp ((wOpen newD).1) false ((wLog newD).1) (ofC 1 1)).1.1) ((wApp ((wOpen newD).1) false ((wLog newD).1) (ofC 1 1)).1.2.1) ((wApp ((wOpen newD).1) false ((wLog newD).1) (ofC 1 1)).1.2.2) (ofC 1 3)).1.2.1) ((wApp ((wApp ((wOpen newD).1) false ((wLog newD).1) (ofC 1 1)).1.1) ((wApp ((wOpen newD).1) false ((wLog newD).1) (ofC 1 1)).1.2.1) ((wApp ((wOpen newD).1) false ((wLog newD).1) (ofC 1 1)).1.2.2) (ofC 1 3)).1.2.2) (ofC 1 2)).1.1))
              refine VO.y rfl (.neq rfl rfl) ?_
              refine VO.mv ?_
              refine VO.dec (t := 43) rfl (fun hc42 => ?_) (fun hc42 => ?_)
              · -- TFFFFFT
                first | exact absurd rfl hc42 | exact absurd (by first | rfl | decide | (simp only [lv0, lv0l, lv1, lv2, lv3, lvw, lvw1, lvp, lvs, lvo, lvl, lvc2, lvc0.1, lvc0.2, lvs1, lvs2]; first | done | rfl | decide | omega)) hc42 | exact absurd hc42 (by first | decide | (simp only [lv0, lv0l, lv1, lv2, lv3, lvw, lvw1, lvp, lvs, lvo, lvl, lvc2, lvc0.1, lvc0.2, lvs1, lvs2]; first | done | rfl | decide | omega)) | (simp only [lv0, lv0l, lv1, lv2, lv3, lvw, lvw1, lvp, lvs, lvo, lvl, lvc2, lvc0.1, lvc0.2, lvs1, lvs2] at hc42; first | done | exact absurd hc42 (by decide) | exact absurd rfl hc42)
              · -- TFFFFFF
                refine VO.gy rfl ⟨_, rfl, rfl⟩ (.mv rfl) ?_
                refine VO.gcall 136 rfl ⟨_, rfl, rfl⟩ fnOk28 rfl rfl (fun W hW => dStart_ok W (hW.at (i := 136) rfl) w34_0 1 bdk 4 bdk (by assumption) (by first | (simp only [lv0, lv0l, lv1, lv2, lv3, lvw, lvw1, lvp, lvs, lvo, lvl, lvc2, lvc0.1, lvc0.2, lvs1, lvs2]; decide +kernel) | decide +kernel)) (fun v43 m43 hv43 => ?_)
                obtain ⟨rfl, w43_0⟩ := hv43
                have hfa44 := (start_ok (k := 1) (t := 4) (show okD ((dPull ((wApp ((wApp ((wApp ((wOpen newD).1) false ((wLog newD).1) (ofC 1 1)).1.1) ((wApp ((wOpen newD).1) false ((wLog newD).1) (ofC 1 1)).1.2.1) ((wApp ((wOpen newD).1) false ((wLog newD).1) (ofC 1 1)).1.2.2) (ofC 1 3)).1.1) ((wApp ((wApp ((wOpen newD).1) false ((wLog newD).1) (ofC 1 1)).1.1) ((wApp ((wOpen newD).1) false ((wLog newD).1) (ofC 1 1)).1.2.1) ((wApp ((wOpen newD).1) false ((wLog newD).1) (ofC 1 1)).1.2.2) (ofC 1 3)).1.2.1) ((wApp ((wApp ((wOpen newD).1) false ((wLog newD).1) (ofC 1 1)).1.1) ((wApp ((wOpen newD).1) false ((wLog newD).1) (ofC 1 1)).1.2.1) ((wApp ((wOpen newD).1) false ((wLog newD).1) (ofC 1 1)).1.2.2) (ofC 1 3)).1.2.2) (ofC 1 2)).1.1)).1) by assumption))
                have hfa45 := (start_w ((dPull ((wApp ((wApp ((wApp ((wOpen newD).1) false ((wLog newD).1) (ofC 1 1)).1.1) ((wApp ((wOpen newD).1) false ((wLog newD).1) (ofC 1 1)).1.2.1) ((wApp ((wOpen newD).1) false ((wLog newD).1) (ofC 1 1)).1.2.2) (ofC 1 3)).1.1) ((wApp ((wApp ((wOpen newD).1) false ((wLog newD).1) (ofC 1 1)).1.1) ((wApp ((wOpen newD).1) false ((wLog newD).1) (ofC 1 1)).1.2.1) ((wApp ((wOpen newD).1) false ((wLog newD).1) (ofC 1 1)).1.2.2) (ofC 1 3)).1.2.1) ((wApp ((wApp ((wOpen newD).1) false ((wLog newD).1) (ofC 1 1)).1.1) ((wApp ((wOpen newD).1) false ((wLog newD).1) (ofC 1 1)).1.2.1) ((wApp ((wOpen newD).1) false ((wLog newD).1) (ofC 1 1)).1.2.2) (ofC 1 3)).1.2.2) (ofC 1 2)).1.1)).1) 1 4)
                refine VO.gy rfl ⟨_, rfl, rfl⟩ (.neq rfl rfl) ?_
                refine VO.y rfl (.pF rfl rfl) ?_
                refine VO.clsP 146 [139, 136, 137, 138] rfl (fun hg46 => (mkP_walWal (s1_0, (dStart ((dPull ((wApp ((wApp ((wApp ((wOpen newD).1) false ((wLog newD).1) (ofC 1 1)).1.1) ((wApp ((wOpen newD).1) false ((wLog newD).1) (ofC 1 1)).1.2.1) ((wApp ((wOpen newD).1) false ((wLog newD).1) (ofC 1 1)).1.2.2) (ofC 1 3)).1.1) ((wApp ((wApp ((wOpen newD).1) false ((wLog newD).1) (ofC 1 1)).1.1) ((wApp ((wOpen newD).1) false ((wLog newD).1) (ofC 1 1)).1.2.1) ((wApp ((wOpen newD).1) false ((wLog newD).1) (ofC 1 1)).1.2.2) (ofC 1 3)).1.2.1) ((wApp ((wApp ((wOpen newD).1) false ((wLog newD).1) (ofC 1 1)).1.1) ((wApp ((wOpen newD).1) false ((wLog newD).1) (ofC 1 1)).1.2.1) ((wApp ((wOpen newD).1) false ((wLog newD).1) (ofC 1 1)).1.2.2) (ofC 1 3)).1.2.2) (ofC 1 2)).1.1)).1) 1 4).1) ((wApp ((wApp ((wApp ((wOpen newD).1) false ((wLog newD).1) (ofC 1 1)).1.1) ((wApp ((wOpen newD).1) false ((wLog newD).1) (ofC 1 1)).1.2.1) ((wApp ((wOpen newD).1) false ((wLog newD).1) (ofC 1 1)).1.2.2) (ofC 1 3)).1.1) ((wApp ((wApp ((wOpen newD).1) false ((wLog newD).1) (ofC 1 1)).1.1) ((wApp ((wOpen newD).1) false ((wLog newD).1) (ofC 1 1)).1.2.1) ((wApp ((wOpen newD).1) false ((wLog newD).1) (ofC 1 1)).1.2.2) (ofC 1 3)).1.2.1) ((wApp ((wApp ((wOpen newD).1) false ((wLog newD).1) (ofC 1 1)).1.1) ((wApp ((wOpen newD).1) false ((wLog newD).1) (ofC 1 1)).1.2.1) ((wApp ((wOpen newD).1) false ((wLog newD).1) (ofC 1 1)).1.2.2) (ofC 1 3)).1.2.2) (ofC 1 2)).1.2.1) ((wApp ((wApp ((wApp ((wOpen newD).1) false ((wLog newD).1) (ofC 1 1)).1.1) ((wApp ((wOpen newD).1) false ((wLog newD).1) (ofC 1 1)).1.2.1) ((wApp ((wOpen newD).1) false ((wLog newD).1) (ofC 1 1)).1.2.2) (ofC 1 3)).1.1) ((wApp ((wApp ((wOpen newD).1) false ((wLog newD).1) (ofC 1 1)).1.1) ((wApp ((wOpen newD).1) false ((wLog newD).1) (ofC 1 1)).1.2.1) ((wApp ((wOpen newD).1) false ((wLog newD).1) (ofC 1 1)).1.2.2) (ofC 1 3)).1.2.1) ((wApp ((wApp ((wOpen newD).1) false ((wLog newD).1) (ofC 1 1)).1.1) ((wApp ((wOpen newD).1) false ((wLog newD).1) (ofC 1 1)).1.2.1) ((wApp ((wOpen newD).1) false ((wLog newD).1) (ofC 1 1)).1.2.2) (ofC 1 3)).1.2.2) (ofC 1 2)).1.2.2) (endsC (wApp ((wApp ((wApp ((wOpen newD).1) false ((wLog newD).1) (ofC 1 1)).1.1) ((wApp ((wOpen newD).1) false ((wLog newD).1) (ofC 1 1)).1.2.1) ((wApp ((wOpen newD).1) false ((wLog newD).1) (ofC 1 1)).1.2.2) (ofC 1 3)).1.1) ((wApp ((wApp ((wOpen newD).1) false ((wLog newD).1) (ofC 1 1)).1.1) ((wApp ((wOpen newD).1) false ((wLog newD).1) (ofC 1 1)).1.2.1) ((wApp ((wOpen newD).1) false ((wLog newD).1) (ofC 1 1)).1.2.2) (ofC 1 3)).1.2.1) ((wApp ((wApp ((wOpen newD).1) false ((wLog newD).1) (ofC 1 1)).1.1) ((wApp ((wOpen newD).1) false ((wLog newD).1) (ofC 1 1)).1.2.1) ((wApp ((wOpen newD).1) false ((wLog newD).1) (ofC 1 1)).1.2.2) (ofC 1 3)).1.2.2) (ofC 1 2)).1.2.2) hg46 w43_0 q35_2 (OwnL.ow (Ow.ownl q35_3 rfl mnil) rfl))) (fun mc46 ho46 => ?_)
                refine VO.k6 0 1 2 3 39 47 ?_
                refine VC.cond rfl (fun hc47 => ?_) (fun hc47 => ?_)
                · -- TFFFFFFT
                  first | exact absurd rfl hc47 | exact absurd (by first | rfl | decide | (simp only [lv0, lv0l, lv1, lv2, lv3, lvw, lvw1, lvp, lvs, lvo, lvl, lvc2, lvc0.1, lvc0.2, lvs1, lvs2]; first | done | rfl | decide | omega)) hc47 | exact absurd hc47 (by first | decide | (simp only [lv0, lv0l, lv1, lv2, lv3, lvw, lvw1, lvp, lvs, lvo, lvl, lvc2, lvc0.1, lvc0.2, lvs1, lvs2]; first | done | rfl | decide | omega)) | (simp only [lv0, lv0l, lv1, lv2, lv3, lvw, lvw1, lvp, lvs, lvo, lvl, lvc2, lvc0.1, lvc0.2, lvs1, lvs2] at hc47; first | done | exact absurd hc47 (by decide) | exact absurd rfl hc47)
                · -- TFFFFFFF
                  refine VC.skip ?_
                  refine outN ?_
                  refine VC.rs ?_
                  refine VO.mv ?_
                  obtain ⟨q48_E, q48_A2, q48_c2, q48_A3, q48_c3, q48_n0, q48_n2, q48_n3, _, q48_S, q48_0, q48_2, q48_3⟩ := openP_walWal (x0 := (s1_0, (dStart ((dPull ((wApp ((wApp ((wApp ((wOpen newD).1) false ((wLog newD).1) (ofC 1 1)).1.1) ((wApp ((wOpen newD).1) false ((wLog newD).1) (ofC 1 1)).1.2.1) ((wApp ((wOpen newD).1) false ((wLog newD).1) (ofC 1 1)).1.2.2) (ofC 1 3)).1.1) ((wApp ((wApp ((wOpen newD).1) false ((wLog newD).1) (ofC 1 1)).1.1) ((wApp ((wOpen newD).1) false ((wLog newD).1) (ofC 1 1)).1.2.1) ((wApp ((wOpen newD).1) false ((wLog newD).1) (ofC 1 1)).1.2.2) (ofC 1 3)).1.2.1) ((wApp ((wApp ((wOpen newD).1) false ((wLog newD).1) (ofC 1 1)).1.1) ((wApp ((wOpen newD).1) false ((wLog newD).1) (ofC 1 1)).1.2.1) ((wApp ((wOpen newD).1) false ((wLog newD).1) (ofC 1 1)).1.2.2) (ofC 1 3)).1.2.2) (ofC 1 2)).1.1)).1) 1 4).1)) (x1 := ((wApp ((wApp ((wApp ((wOpen newD).1) false ((wLog newD).1) (ofC 1 1)).1.1) ((wApp ((wOpen newD).1) false ((wLog newD).1) (ofC 1 1)).1.2.1) ((wApp ((wOpen newD).1) false ((wLog newD).1) (ofC 1 1)).1.2.2) (ofC 1 3)).1.1) ((wApp ((wApp ((wOpen newD).1) false ((wLog newD).1) (ofC 1 1)).1.1) ((wApp ((wOpen newD).1) false ((wLog newD).1) (ofC 1 1)).1.2.1) ((wApp ((wOpen newD).1) false ((wLog newD).1) (ofC 1 1)).1.2.2) (ofC 1 3)).1.2.1) ((wApp ((wApp ((wOpen newD).1) false ((wLog newD).1) (ofC 1 1)).1.1) ((wApp ((wOpen newD).1) false ((wLog newD).1) (ofC 1 1)).1.2.1) ((wApp ((wOpen newD).1) false ((wLog newD).1) (ofC 1 1)).1.2.2) (ofC 1 3)).1.2.2) (ofC 1 2)).1.2.1)) (x2 := ((wApp ((wApp ((wApp ((wOpen newD).1) false ((wLog newD).1) (ofC 1 1)).1.1) ((wApp ((wOpen newD).1) false ((wLog newD).1) (ofC 1 1)).1.2.1) ((wApp ((wOpen newD).1) false ((wLog newD).1) (ofC 1 1)).1.2.2) (ofC 1 3)).1.1) ((wApp ((wApp ((wOpen newD).1) false ((wLog newD).1) (ofC 1 1)).1.1) ((wApp ((wOpen newD).1) false ((wLog newD).1) (ofC 1 1)).1.2.1) ((wApp ((wOpen newD).1) false ((wLog newD).1) (ofC 1 1)).1.2.2) (ofC 1 3)).1.2.1) ((wApp ((wApp ((wOpen newD).1) false ((wLog newD).1) (ofC 1 1)).1.1) ((wApp ((wOpen newD).1) false ((wLog newD).1) (ofC 1 1)).1.2.1) ((wApp ((wOpen newD).1) false ((wLog newD).1) (ofC 1 1)).1.2.2) (ofC 1 3)).1.2.2) (ofC 1 2)).1.2.2)) (x3 := (endsC (wApp ((wApp ((wApp ((wOpen newD).1) false ((wLog newD).1) (ofC 1 1)).1.1) ((wApp ((wOpen newD).1) false ((wLog newD).1) (ofC 1 1)).1.2.1) ((wApp ((wOpen newD).1) false ((wLog newD).1) (ofC 1 1)).1.2.2) (ofC 1 3)).1.1) ((wApp ((wApp ((wOpen newD).1) false ((wLog newD).1) (ofC 1 1)).1.1) ((wApp ((wOpen newD).1) false ((wLog newD).1) (ofC 1 1)).1.2.1) ((wApp ((wOpen newD).1) false ((wLog newD).1) (ofC 1 1)).1.2.2) (ofC 1 3)).1.2.1) ((wApp ((wApp ((wOpen newD).1) false ((wLog newD).1) (ofC 1 1)).1.1) ((wApp ((wOpen newD).1) false ((wLog newD).1) (ofC 1 1)).1.2.1) ((wApp ((wOpen newD).1) false ((wLog newD).1) (ofC 1 1)).1.2.2) (ofC 1 3)).1.2.2) (ofC 1 2)).1.2.2)) ho46
                  dsimp only at q48_0
                  have q48_r2 := q48_2.rm
                  have q48_r3 := q48_3.rm
                  refine VO.inv _ (fun _ h => h.parts (i := 146) rfl q48_S [152, 149, 150, 151]) ?_
                  by_cases hsp53 : (wOpen ((dStart ((dPull ((wApp ((wApp ((wApp ((wOpen newD).1) false ((wLog newD).1) (ofC 1 1)).1.1) ((wApp ((wOpen newD).1) false ((wLog newD).1) (ofC 1 1)).1.2.1) ((wApp ((wOpen newD).1) false ((wLog newD).1) (ofC 1 1)).1.2.2) (ofC 1 3)).1.1) ((wApp ((wApp ((wOpen newD).1) false ((wLog newD).1) (ofC 1 1)).1.1) ((wApp ((wOpen newD).1) false ((wLog newD).1) (ofC 1 1)).1.2.1) ((wApp ((wOpen newD).1) false ((wLog newD).1) (ofC 1 1)).1.2.2) (ofC 1 3)).1.2.1) ((wApp ((wApp ((wOpen newD).1) false ((wLog newD).1) (ofC 1 1)).1.1) ((wApp ((wOpen newD).1) false ((wLog newD).1) (ofC 1 1)).1.2.1) ((wApp ((wOpen newD).1) false ((wLog newD).1) (ofC 1 1)).1.2.2) (ofC 1 3)).1.2.2) (ofC 1 2)).1.1)).1) 1 4).1)).2 = 0
                  · -- TFFFFFFFT
                    refine VO.call 149 rfl fnOk15 rfl rfl (fun W hW => wOpenY_ok W (hW.at (i := 149) rfl) q48_0 (by assumption) (by first | (simp only [lv0, lv0l, lv1, lv2, lv3, lvw, lvw1, lvp, lvs, lvo, lvl, lvc2, lvc0.1, lvc0.2, lvs1, lvs2]; decide +kernel) | decide +kernel) (by assumption)) (fun v54 m54 hv54 => ?_)
                    obtain ⟨s54_0, rfl, f54_0⟩ := hv54
                    have hfa55 := (open_ok (show okD ((dStart ((dPull ((wApp ((wApp ((wApp ((wOpen newD).1) false ((wLog newD).1) (ofC 1 1)).1.1) ((wApp ((wOpen newD).1) false ((wLog newD).1) (ofC 1 1)).1.2.1) ((wApp ((wOpen newD).1) false ((wLog newD).1) (ofC 1 1)).1.2.2) (ofC 1 3)).1.1) ((wApp ((wApp ((wOpen newD).1) false ((wLog newD).1) (ofC 1 1)).1.1) ((wApp ((wOpen newD).1) false ((wLog newD).1) (ofC 1 1)).1.2.1) ((wApp ((wOpen newD).1) false ((wLog newD).1) (ofC 1 1)).1.2.2) (ofC 1 3)).1.2.1) ((wApp ((wApp ((wOpen newD).1) false ((wLog newD).1) (ofC 1 1)).1.1) ((wApp ((wOpen newD).1) false ((wLog newD).1) (ofC 1 1)).1.2.1) ((wApp ((wOpen newD).1) false ((wLog newD).1) (ofC 1 1)).1.2.2) (ofC 1 3)).1.2.2) (ofC 1 2)).1.1)).1) 1 4).1) by assumption))
                    have hfa56 := (open_w (show okD ((dStart ((dPull ((wApp ((wApp ((wApp ((wOpen newD).1) false ((wLog newD).1) (ofC 1 1)).1.1) ((wApp ((wOpen newD).1) false ((wLog newD).1) (ofC 1 1)).1.2.1) ((wApp ((wOpen newD).1) false ((wLog newD).1) (ofC 1 1)).1.2.2) (ofC 1 3)).1.1) ((wApp ((wApp ((wOpen newD).1) false ((wLog newD).1) (ofC 1 1)).1.1) ((wApp ((wOpen newD).1) false ((wLog newD).1) (ofC 1 1)).1.2.1) ((wApp ((wOpen newD).1) false ((wLog newD).1) (ofC 1 1)).1.2.2) (ofC 1 3)).1.2.1) ((wApp ((wApp ((wOpen newD).1) false ((wLog newD).1) (ofC 1 1)).1.1) ((wApp ((wOpen newD).1) false ((wLog newD).1) (ofC 1 1)).1.2.1) ((wApp ((wOpen newD).1) false ((wLog newD).1) (ofC 1 1)).1.2.2) (ofC 1 3)).1.2.2) (ofC 1 2)).1.1)).1) 1 4).1) by assumption))
                    have hfa57 := (log_bounds (dRead ((dStart ((dPull ((wApp ((wApp ((wApp ((wOpen newD).1) false ((wLog newD).1) (ofC 1 1)).1.1) ((wApp ((wOpen newD).1) false ((wLog newD).1) (ofC 1 1)).1.2.1) ((wApp ((wOpen newD).1) false ((wLog newD).1) (ofC 1 1)).1.2.2) (ofC 1 3)).1.1) ((wApp ((wApp ((wOpen newD).1) false ((wLog newD).1) (ofC 1 1)).1.1) ((wApp ((wOpen newD).1) false ((wLog newD).1) (ofC 1 1)).1.2.1) ((wApp ((wOpen newD).1) false ((wLog newD).1) (ofC 1 1)).1.2.2) (ofC 1 3)).1.2.1) ((wApp ((wApp ((wOpen newD).1) false ((wLog newD).1) (ofC 1 1)).1.1) ((wApp ((wOpen newD).1) false ((wLog newD).1) (ofC 1 1)).1.2.1) ((wApp ((wOpen newD).1) false ((wLog newD).1) (ofC 1 1)).1.2.2) (ofC 1 3)).1.2.2) (ofC 1 2)).1.1)).1) 1 4).1) 0).1)
                    have hfa58 := (okL_log ((dStart ((dPull ((wApp ((wApp ((wApp ((wOpen newD).1) false ((wLog newD).1) (ofC 1 1)).1.1) ((wApp ((wOpen newD).1) false ((wLog newD).1) (ofC 1 1)).1.2.1) ((wApp ((wOpen newD).1) false ((wLog newD).1) (ofC 1 1)).1.2.2) (ofC 1 3)).1.1) ((wApp ((wApp ((wOpen newD).1) false ((wLog newD).1) (ofC 1 1)).1.1) ((wApp ((wOpen newD).1) false ((wLog newD).1) (ofC 1 1)).1.2.1) ((wApp ((wOpen newD).1) false ((wLog newD).1) (ofC 1 1)).1.2.2) (ofC 1 3)).1.2.1) ((wApp ((wApp ((wOpen newD).1) false ((wLog newD).1) (ofC 1 1)).1.1) ((wApp ((wOpen newD).1) false ((wLog newD).1) (ofC 1 1)).1.2.1) ((wApp ((wOpen newD).1) false ((wLog newD).1) (ofC 1 1)).1.2.2) (ofC 1 3)).1.2.2) (ofC 1 2)).1.1)).1) 1 4).1))
                    refine VO.mv ?_
                    refine VO.y rfl (.ext rfl rfl) ?_
                    refine VO.y rfl (.ext rfl rfl) ?_
                    refine VO.as ?_
                    refine VO.as ?_
                    refine VO.kp [149, 152, 150, 151, 0] [(149, m54), (152, mone s5_0 (.cells [Value.pointer (some ⟨s1_0, 0, none⟩), Value.bool ((wApp ((wApp ((wApp ((wOpen newD).1) false ((wLog newD).1) (ofC 1 1)).1.1) ((wApp ((wOpen newD).1) false ((wLog newD).1) (ofC 1 1)).1.2.1) ((wApp ((wOpen newD).1) false ((wLog newD).1) (ofC 1 1)).1.2.2) (ofC 1 3)).1.1) ((wApp ((wApp ((wOpen newD).1) false ((wLog newD).1) (ofC 1 1)).1.1) ((wApp ((wOpen newD).1) false ((wLog newD).1) (ofC 1 1)).1.2.1) ((wApp ((wOpen newD).1) false ((wLog newD).1) (ofC 1 1)).1.2.2) (ofC 1 3)).1.2.1) ((wApp ((wApp ((wOpen newD).1) false ((wLog newD).1) (ofC 1 1)).1.1) ((wApp ((wOpen newD).1) false ((wLog newD).1) (ofC 1 1)).1.2.1) ((wApp ((wOpen newD).1) false ((wLog newD).1) (ofC 1 1)).1.2.2) (ofC 1 3)).1.2.2) (ofC 1 2)).1.2.1), Value.slice q48_A2 (((wApp ((wApp ((wApp ((wOpen newD).1) false ((wLog newD).1) (ofC 1 1)).1.1) ((wApp ((wOpen newD).1) false ((wLog newD).1) (ofC 1 1)).1.2.1) ((wApp ((wOpen newD).1) false ((wLog newD).1) (ofC 1 1)).1.2.2) (ofC 1 3)).1.1) ((wApp ((wApp ((wOpen newD).1) false ((wLog newD).1) (ofC 1 1)).1.1) ((wApp ((wOpen newD).1) false ((wLog newD).1) (ofC 1 1)).1.2.1) ((wApp ((wOpen newD).1) false ((wLog newD).1) (ofC 1 1)).1.2.2) (ofC 1 3)).1.2.1) ((wApp ((wApp ((wOpen newD).1) false ((wLog newD).1) (ofC 1 1)).1.1) ((wApp ((wOpen newD).1) false ((wLog newD).1) (ofC 1 1)).1.2.1) ((wApp ((wOpen newD).1) false ((wLog newD).1) (ofC 1 1)).1.2.2) (ofC 1 3)).1.2.2) (ofC 1 2)).1.2.2).length) (q48_c2), Value.slice q48_A3 ((endsC (wApp ((wApp ((wApp ((wOpen newD).1) false ((wLog newD).1) (ofC 1 1)).1.1) ((wApp ((wOpen newD).1) false ((wLog newD).1) (ofC 1 1)).1.2.1) ((wApp ((wOpen newD).1) false ((wLog newD).1) (ofC 1 1)).1.2.2) (ofC 1 3)).1.1) ((wApp ((wApp ((wOpen newD).1) false ((wLog newD).1) (ofC 1 1)).1.1) ((wApp ((wOpen newD).1) false ((wLog newD).1) (ofC 1 1)).1.2.1) ((wApp ((wOpen newD).1) false ((wLog newD).1) (ofC 1 1)).1.2.2) (ofC 1 3)).1.2.1) ((wApp ((wApp ((wOpen newD).1) false ((wLog newD).1) (ofC 1 1)).1.1) ((wApp ((wOpen newD).1) false ((wLog newD).1) (ofC 1 1)).1.2.1) ((wApp ((wOpen newD).1) false ((wLog newD).1) (ofC 1 1)).1.2.2) (ofC 1 3)).1.2.2) (ofC 1 2)).1.2.2).length) (q48_c3)].toArray q48_E (0, 0))), (150, q48_n2), (151, q48_n3), (0, wm W)] ?_
                    refine VO.k7 0 1 2 3 4 39 47 ?_
                    refine VC.rs ?_
                    refine VO.mv ?_
                    refine VO.y rfl (.eql rfl rfl) ?_
                    refine VO.mv ?_
                    refine VO.dec (t := 55) rfl (fun hc59 => ?_) (fun hc59 => ?_)
                    · -- TFFFFFFFTT
                      refine VO.gy rfl ⟨_, rfl, rfl⟩ (.mv rfl) ?_
                      refine VO.gcall 149 rfl ⟨_, rfl, rfl⟩ fnOk31 rfl rfl (fun W hW => wEnd_ok W (hW.at (i := 149) rfl) f54_0) (fun v60 m60 hv60 => ?_)
                      try dsimp only at hv60
                      obtain ⟨rfl, w60_0⟩ := hv60
                      refine VO.gy rfl ⟨_, rfl, rfl⟩ (.eql rfl rfl) ?_
                      refine VO.y rfl (.pT rfl rfl) ?_
                      refine VO.mv ?_
                      refine VO.dec (t := 60) rfl (fun hc61 => ?_) (fun hc61 => ?_)
                      · -- TFFFFFFFTTT
                        refine VO.gy rfl ⟨_, rfl, rfl⟩ (.mv rfl) ?_
                        refine VO.gcall 149 rfl ⟨_, rfl, rfl⟩ fnOk33 rfl rfl (fun W hW => wLen_ok W (hW.at (i := 149) rfl) w60_0) (fun v62 m62 hv62 => ?_)
                        try dsimp only at hv62
                        obtain ⟨rfl, w62_0⟩ := hv62
                        refine VO.gy rfl ⟨_, rfl, rfl⟩ (.eql rfl rfl) ?_
                        refine VO.y rfl (.pT rfl rfl) ?_
                        refine VO.mv ?_
                        refine VO.dec (t := 65) rfl (fun hc63 => ?_) (fun hc63 => ?_)
                        · -- TFFFFFFFTTTT
                          refine VO.gy rfl ⟨_, rfl, rfl⟩ (.mv rfl) ?_
                          refine VO.gcall 149 rfl ⟨_, rfl, rfl⟩ fnOk20 rfl rfl (fun W hW => wEpoch_ok W (hW.at (i := 149) rfl) w62_0) (fun v64 m64 hv64 => ?_)
                          try dsimp only at hv64
                          obtain ⟨rfl, w64_0⟩ := hv64
                          refine VO.gy rfl ⟨_, rfl, rfl⟩ (.eql rfl rfl) ?_
                          refine VO.y rfl (.pT rfl rfl) ?_
                          refine VO.as ?_
                          refine VO.k7 0 1 2 3 4 39 47 ?_
                          refine VC.ret ?_
                          refine ⟨_, _, res_run (rs := [.tmp 0]) rfl (.tmp rfl .nil), fun W_ hI => out_of (l := []) hI [] rfl rfl (mle_refl _) (fun hS_ => ?_)⟩
                          dsimp only [packV]
                          all_goals (first | rfl | (first | exact congrArg Value.bool (decide_eq_true (by (simp only [lv0, lv0l, lv1, lv2, lv3, lvw, lvw1, lvp, lvs, lvo, lvl, lvc2, lvc0.1, lvc0.2, lvs1, lvs2]; first | done | rfl | decide | omega))) | rfl))
                        · -- TFFFFFFFTTTF
                          first | exact absurd rfl hc63 | exact absurd (by first | rfl | decide | (simp only [lv0, lv0l, lv1, lv2, lv3, lvw, lvw1, lvp, lvs, lvo, lvl, lvc2, lvc0.1, lvc0.2, lvs1, lvs2]; first | done | rfl | decide | omega)) hc63 | exact absurd hc63 (by first | decide | (simp only [lv0, lv0l, lv1, lv2, lv3, lvw, lvw1, lvp, lvs, lvo, lvl, lvc2, lvc0.1, lvc0.2, lvs1, lvs2]; first | done | rfl | decide | omega)) | (simp only [lv0, lv0l, lv1, lv2, lv3, lvw, lvw1, lvp, lvs, lvo, lvl, lvc2, lvc0.1, lvc0.2, lvs1, lvs2] at hc63; first | done | exact absurd hc63 (by decide) | exact absurd rfl hc63)
                      · -- TFFFFFFFTTF
                        first | exact absurd rfl hc61 | exact absurd (by first | rfl | decide | (simp only [lv0, lv0l, lv1, lv2, lv3, lvw, lvw1, lvp, lvs, lvo, lvl, lvc2, lvc0.1, lvc0.2, lvs1, lvs2]; first | done | rfl | decide | omega)) hc61 | exact absurd hc61 (by first | decide | (simp only [lv0, lv0l, lv1, lv2, lv3, lvw, lvw1, lvp, lvs, lvo, lvl, lvc2, lvc0.1, lvc0.2, lvs1, lvs2]; first | done | rfl | decide | omega)) | (simp only [lv0, lv0l, lv1, lv2, lv3, lvw, lvw1, lvp, lvs, lvo, lvl, lvc2, lvc0.1, lvc0.2, lvs1, lvs2] at hc61; first | done | exact absurd hc61 (by decide) | exact absurd rfl hc61)
                    · -- TFFFFFFFTF
                      first | exact absurd rfl hc59 | exact absurd (by first | rfl | decide | (simp only [lv0, lv0l, lv1, lv2, lv3, lvw, lvw1, lvp, lvs, lvo, lvl, lvc2, lvc0.1, lvc0.2, lvs1, lvs2]; first | done | rfl | decide | omega)) hc59 | exact absurd hc59 (by first | decide | (simp only [lv0, lv0l, lv1, lv2, lv3, lvw, lvw1, lvp, lvs, lvo, lvl, lvc2, lvc0.1, lvc0.2, lvs1, lvs2]; first | done | rfl | decide | omega)) | (simp only [lv0, lv0l, lv1, lv2, lv3, lvw, lvw1, lvp, lvs, lvo, lvl, lvc2, lvc0.1, lvc0.2, lvs1, lvs2] at hc59; first | done | exact absurd hc59 (by decide) | exact absurd rfl hc59)
                  · -- TFFFFFFFF
                    first | exact absurd rfl hsp53 | exact absurd (by first | rfl | decide | (simp only [lv0, lv0l, lv1, lv2, lv3, lvw, lvw1, lvp, lvs, lvo, lvl, lvc2, lvc0.1, lvc0.2, lvs1, lvs2]; first | done | rfl | decide | omega)) hsp53 | exact absurd hsp53 (by first | decide | (simp only [lv0, lv0l, lv1, lv2, lv3, lvw, lvw1, lvp, lvs, lvo, lvl, lvc2, lvc0.1, lvc0.2, lvs1, lvs2]; first | done | rfl | decide | omega)) | (simp only [lv0, lv0l, lv1, lv2, lv3, lvw, lvw1, lvp, lvs, lvo, lvl, lvc2, lvc0.1, lvc0.2, lvs1, lvs2] at hsp53; first | done | exact absurd hsp53 (by decide) | exact absurd rfl hsp53)
  · -- F
    first | exact absurd rfl hsp4 | exact absurd (by first | rfl | decide | (simp only [lv0, lv0l, lv1, lv2, lv3, lvw, lvw1, lvp, lvs, lvo, lvl, lvc2, lvc0.1, lvc0.2, lvs1, lvs2]; first | done | rfl | decide | omega)) hsp4 | exact absurd hsp4 (by first | decide | (simp only [lv0, lv0l, lv1, lv2, lv3, lvw, lvw1, lvp, lvs, lvo, lvl, lvc2, lvc0.1, lvc0.2, lvs1, lvs2]; first | done | rfl | decide | omega)) | (simp only [lv0, lv0l, lv1, lv2, lv3, lvw, lvw1, lvp, lvs, lvo, lvl, lvc2, lvc0.1, lvc0.2, lvs1, lvs2] at hsp4; first | done | exact absurd hsp4 (by decide) | exact absurd rfl hsp4)
end
section
set_option linter.unusedVariables false
set_option linter.unusedSimpArgs false
set_option maxRecDepth 4000
theorem fnOk10 : fnOk Try.prog 10 = true := by kernel_rfl
theorem fnOk11 : fnOk Try.prog 11 = true := by kernel_rfl
theorem fnOk13 : fnOk Try.prog 13 = true := by kernel_rfl
theorem fnOk14 : fnOk Try.prog 14 = true := by kernel_rfl
theorem fnOk8 : fnOk Try.prog 8 = true := by kernel_rfl
theorem walScan_ok (W : World) {v0 : Value} {d0 : List UInt8} (h0 : Rd (.sl .byte) (wm W) [v0] d0) : CallR Try.prog 3 [v0] W (mnil) (fun v m' => v = .bool true) := by
 obtain ⟨A0, c0, rfl, l0, k0⟩ := h0.slice
 simp only [maxLen] at k0
 refine CallR.ofA (n := 59) Try.func3 rfl rfl rfl ?_
 refine VC.rs (VO.as (VO.k2 0 2 (VC.seq (VC.rs (VO.mv ?_)))))
 refine VO.y rfl (.lenS rfl tsl22) ?_
 refine VO.y rfl (.gtr rfl rfl) (VO.k3 0 2 12 ?_)
 refine VC.cond rfl (fun hc1 => ?_) (fun hc1 => ?_)
 · refine VC.rs ?_
   refine VO.callN 102 rfl fnOk8 rfl (fun W hW => lives12_ok W ) (fun v2 m2 hv2 => ?_)
   subst hv2
   refine VO.as ?_
   refine VO.kp [0] [(0, wm W)] ?_
   refine VO.k3 0 2 12 (VC.ret (outR ?_))
   refine ⟨_, _, res_run (rs := [.tmp 2]) rfl (.tmp rfl .nil), fun W_ hI => out_of (l := []) hI [] rfl rfl (mle_refl _) (fun hS_ => ?_)⟩
   dsimp only [packV]
   all_goals (first | rfl | (simp [*]; done))
 refine VC.skip (outN (VC.rs (VO.mv ?_)))
 refine VO.callN 103 rfl fnOk9 rfl (fun W hW => LentBytes_ok W (Rd.mono h0 (hW.at (i := 0) rfl)) bd) (fun v3 m3 hv3 => ?_)
 obtain ⟨s3_0, rfl, f3_0⟩ := hv3
 obtain ⟨A3_0, c3_0, eq3_0, l3_0, k3_0⟩ := f3_0.slice
 subst eq3_0
 simp only [maxLen] at k3_0
 refine VO.as ?_
 refine VO.kp [103, 0] [(103, m3), (0, wm W)] ?_
 refine VO.k4 0 2 3 12 (VC.rs (VO.mv (VO.mv ?_)))
 refine VO.y rfl (.lenS rfl tsl22) ?_
 have hs4 := (OwnL.rd (Ow.ownl f3_0 rfl mnil) (mle_refl _) (mle_nil _)).pre (j := d0.length) bd
 rw [List.take_left] at hs4
 refine VO.y rfl (.slHI d0.length rfl rfl tsl22 rfl bd) ?_
 refine VO.callN 105 rfl fnOk10 rfl (fun W hW => wScan_ok W (OwnL.rd (by have h_ := ((Ow.ownl f3_0 rfl mnil).pre (j := d0.length) bd); rw [List.take_left] at h_; exact h_) (hW.at (i := 103) rfl) (mle_nil _)) bd) (fun v5 m5 hv5 => ?_)
 obtain ⟨s5_0, rfl, f5_0⟩ := hv5
 have hfa6 := log_bounds d0
 obtain ⟨A5_0, c5_0, eq5_0, l5_0, k5_0⟩ := f5_0.slice
 subst eq5_0
 simp only [maxLen] at k5_0
 refine VO.mv (VO.y rfl (.ext rfl rfl) (VO.y rfl (.ext rfl rfl) (VO.as (VO.as (VO.k6 0 2 3 4 5 12 (VC.rs (VO.mv (VO.mv ?_))))))))
 refine VO.y rfl (.lenS rfl tsl22) ?_
 have hs7 := (OwnL.rd (Ow.ownl f3_0 rfl mnil) (mle_refl _) (mle_nil _)).pre (j := d0.length) bd
 rw [List.take_left] at hs7
 refine VO.y rfl (.slHI d0.length rfl rfl tsl22 rfl bd) ?_
 refine VO.callN 108 rfl fnOk10 rfl (fun W hW => wScan_ok W (OwnL.rd (by have h_ := ((Ow.ownl f3_0 rfl mnil).pre (j := d0.length) bd); rw [List.take_left] at h_; exact h_) (hW.at (i := 103) rfl) (mle_nil _)) bd) (fun v8 m8 hv8 => ?_)
 obtain ⟨s8_0, rfl, f8_0⟩ := hv8
 have hfa9 := log_bounds d0
 obtain ⟨A8_0, c8_0, eq8_0, l8_0, k8_0⟩ := f8_0.slice
 subst eq8_0
 simp only [maxLen] at k8_0
 refine VO.mv (VO.y rfl (.ext rfl rfl) (VO.y rfl (.ext rfl rfl) (VO.as (VO.as (VO.k7 0 2 3 4 5 6 12 (VC.rs (VO.mv ?_)))))))
 refine VO.callN 110 rfl fnOk11 rfl (fun W hW => c12Scan_ok W (Rd.mono h0 (hW.at (i := 0) rfl)) bd) (fun v10 m10 hv10 => ?_)
 obtain ⟨s10_0, rfl, f10_0⟩ := hv10
 have hfa11 := log_bounds d0
 obtain ⟨A10_0, c10_0, eq10_0, l10_0, k10_0⟩ := f10_0.slice
 subst eq10_0
 simp only [maxLen] at k10_0
 refine VO.mv (VO.y rfl (.ext rfl rfl) (VO.y rfl (.ext rfl rfl) (VO.as (VO.as ?_))))
 refine VO.kp [110, 108, 105, 103, 0] [(110, m10), (108, m8), (105, m5), (103, m3), (0, wm W)] ?_
 refine VO.k9 0 2 3 4 5 6 8 9 12 (VC.rs ?_)
 refine VO.callN 112 rfl fnOk8 rfl (fun W hW => lives12_ok W ) (fun v12 m12 hv12 => ?_)
 subst hv12
 refine VO.mv (VO.gy rfl ⟨_, rfl, rfl⟩ (.mv rfl) (VO.gy rfl ⟨_, rfl, rfl⟩ (.mv rfl) (VO.gy rfl ⟨_, rfl, rfl⟩ (.eql rfl rfl) (VO.y rfl (.pT rfl rfl) (VO.mv ?_)))))
 refine VO.dec (t := 43) rfl (fun hc13 => ?_) (fun hc13 => ?_)
 refine VO.gy rfl ⟨_, rfl, rfl⟩ (.mv rfl) (VO.gy rfl ⟨_, rfl, rfl⟩ (.mv rfl) ?_)
 refine VO.gcallN 114 rfl ⟨_, rfl, rfl⟩ fnOk12 rfl (fun W hW => SameCommits_ok W (Ow.rd f5_0 (hW.at (i := 105) rfl)) (Ow.rd f10_0 (hW.at (i := 110) rfl))) (fun v14 m14 hv14 => ?_)
 subst hv14
 refine VO.y rfl (.pT rfl rfl) (VO.mv ?_)
 refine VO.dec (t := 48) rfl (fun hc15 => ?_) (fun hc15 => ?_)
 refine VO.gy rfl ⟨_, rfl, rfl⟩ (.mv rfl) (VO.gy rfl ⟨_, rfl, rfl⟩ (.mv rfl) ?_)
 refine VO.gcallN 116 rfl ⟨_, rfl, rfl⟩ fnOk13 rfl (fun W hW => KeptBytes_ok W (OwnL.rd (Ow.ownl f3_0 rfl mnil) (hW.at (i := 103) rfl) (mle_nil _)) (Rd.mono h0 (hW.at (i := 0) rfl)) bd) (fun v16 m16 hv16 => ?_)
 subst hv16
 refine VO.y rfl (.pT rfl rfl) (VO.mv ?_)
 refine VO.dec (t := 53) rfl (fun hc17 => ?_) (fun hc17 => ?_)
 · refine VO.gy rfl ⟨_, rfl, rfl⟩ (.mv rfl) (VO.gy rfl ⟨_, rfl, rfl⟩ (.mv rfl) ?_)
   refine VO.gbsl (cs := [Value.slice A5_0 (((logF d0).1).length) (c5_0), Value.slice A8_0 (((logF d0).1).length) (c8_0)]) 119 rfl ⟨_, rfl, rfl⟩ rfl tsl31 tz25 rfl rfl (fun g18 => ?_)
   refine VO.gather (l := [mone g18 (.cells [Value.slice A5_0 (((logF d0).1).length) (c5_0), Value.slice A8_0 (((logF d0).1).length) (c8_0)].toArray 25 (0, 0)), m5, m8]) 122 [119, 105, 108] rfl (fun hg21 => ?_)
   have ho21 : Ow (.sl (.sl TCommit)) (muns [mone g18 (.cells [Value.slice A5_0 (((logF d0).1).length) (c5_0), Value.slice A8_0 (((logF d0).1).length) (c8_0)].toArray 25 (0, 0)), m5, m8]) [Value.slice (some ⟨g18, 0, none⟩) (2) (2)] [(logF d0).1, (logF d0).1] := Ow.lit 2 (Seps.grp1 (ls := [[m5], [m8]]) hg21) (OwAs.cons (m := muns [m5]) (c1 := [Value.slice A5_0 (((logF d0).1).length) (c5_0)]) (Ow.up f5_0 ((Seps.self hg21 (List.Sublist.cons _ (List.Sublist.cons_cons _ (List.Sublist.cons _ List.Sublist.slnil)))).1 _ (.head _))) (OwAs.cons (m := muns [m8]) (c1 := [Value.slice A8_0 (((logF d0).1).length) (c8_0)]) (Ow.up f8_0 ((Seps.self hg21 (List.Sublist.cons _ (List.Sublist.cons _ (List.Sublist.cons_cons _ List.Sublist.slnil)))).1 _ (.head _))) OwAs.nil)) rfl rfl
   refine VO.gcall 122 rfl ⟨_, rfl, rfl⟩ fnOk14 rfl rfl (fun W hW => ApartCommits_ok W (hW.at (i := 122) rfl) ho21 bd (by exact two_log_l d0) (by exact two_log_a (by omega)) (by exact two_log_b d0)) (fun v20 m20 hv20 => ?_)
   subst hv20
   refine VO.y rfl (.pT rfl rfl) (VO.as (VO.k9 0 2 3 4 5 6 8 9 12 (VC.ret ?_)))
   refine ⟨_, _, res_run (rs := [.tmp 2]) rfl (.tmp rfl .nil), fun W_ hI => out_of (l := []) hI [] rfl rfl (mle_refl _) (fun hS_ => ?_)⟩
   dsimp only [packV]
   all_goals (first | rfl | (simp [*]; done))
 exact absurd (by first | rfl | omega) hc17
 exact absurd (by first | rfl | omega) hc15
 exact absurd (by first | rfl | omega) hc13
end
section
set_option linter.unusedVariables false
set_option maxRecDepth 4000
open Go.ChangeShapes Go.WideShapes Go.ChangeAt Go.RowKit
theorem walScan_ok0 : tyOk Try.prog 60 (.sl .byte) (.inl 22) = true := by kernel_rfl
set_option maxRecDepth 100000 in
theorem walScan_lifted (os : Os) (started : os.Started) (H : Type) (enc : TypeId × Value → H) :
    ReturnsInHanded {} Try.checked os 3 .any (Rows.walScanSpec.pre6 enc Try.prog Try.f3 Rows.walScanRow.domain false) (Rows.walScanSpec.post enc Try.prog Try.f3 false true false false) := by
  refine returnsInHanded_of_change (C := Try.checked) (by kernel_rfl) started (by kernel_rfl) Try.func3
    (ChangeSpec.witness6 (enc := enc) (C := Try.checked) false ⟨#[], #[.slice none 0 0], []⟩ 8 (by kernel_rfl) (by kernel_rfl) (by kernel_rfl) (by kernel_rfl)) ?_
  intro W base args ds gs before hval0 hW hcnd _
  have hval : ∀ (j : Nat) t v, Try.f3.params[j]? = some t → args[j]? = some v → Value.okWide Try.prog W .any base t v := hval0
  have hW' := hW
  obtain ⟨p, q, hA0, hV, rfl, hfz, hnd⟩ := hW
  have hA : DataW.TrodAll enc Try.prog W 0 (fun _ => true) true Try.f3.params.toList args.toList ds p := hA0
  rw [Try.params3] at hA hval
  clear hA0 hval0
  obtain ⟨args⟩ := args
  obtain ⟨v0, r0, d0, e0, p0, q0, ha0, rfl, rfl, h0, hA0⟩ := trodAll_cons hA
  simp only at ha0; subst ha0
  obtain ⟨rfl, rfl, rfl⟩ := trodAll_nil hA0
  obtain ⟨x0, hx0⟩ := arg_sl 60 walScan_ok0 Try.underlying22 (hval 0 22 v0 rfl rfl) h0
  refine (calls_of (walScan_ok W hx0)).mono fun e W' ⟨he, hg⟩ => ?_
  subst he
  exact ⟨_, rfl, law_post hW' hg laidOut_ok (by kernel_rfl) rfl Try.underlying4 rfl rfl rfl rfl⟩
theorem walScan_joined : joinedFacts Try.prog 3 Try.f3 Rows.walScanSpec Rows.walScanRow = true := by
  unfold joinedFacts
  rw [laidOut_ok, mapsRowed_ok, stopsHeard_ok, mayEnter_ok, lifts_ok, make_ok]
  kernel_rfl
theorem walScan_proved : Rows.WalScanSaid :=
  OpenClaim.holds_of_wide 3 Try.f3 rfl rfl rfl rfl rfl rfl rfl ⟨rfl, rfl, rfl, rfl, rfl⟩ rfl rfl rfl rfl rfl (by kernel_rfl) Try.func3 walScan_joined
    (of_decide_eq_true (by kernel_rfl)) (by unfold Func.isWrapper; first | (rw [if_pos (by decide +kernel)]; kernel_rfl) | (rw [if_neg (by decide +kernel)]; exact ⟨rfl, rfl⟩))
    (fun os started H enc _ => walScan_lifted os started H enc)
#print axioms walScan_proved
end
end Go.Proofs.Ytdoamgdanlnlfaa
