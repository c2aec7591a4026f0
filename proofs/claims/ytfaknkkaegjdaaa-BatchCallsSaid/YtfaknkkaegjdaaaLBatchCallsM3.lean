/- Part 3 of the proof of LBatchCalls: what it needs of the library, the walks and the plain laws. Conditions: those named in each theorem. -/
import Derived.Test.YtfaknkkaegjdaaaLBatchCallsM2
namespace Go.Proofs.Ytfaknkkaegjdaaa
section
set_option linter.unusedVariables false
set_option linter.unusedSimpArgs false
set_option maxRecDepth 4000
theorem fnOk98 : fnOk Try.prog 98 = true := by kernel_rfl
theorem rbAppend_ok (W : World) {v0 : Value} {d0 : List UInt8} (h0 : Rd (.sl .byte) (wm W) [v0] d0) {v1 : Value} {d1 : List DOp} (h1 : Rd (.sl TOp) (wm W) [v1] d1) (e0 : d0.length ≤ 140737488352000) : CallR Try.prog 31 [v0, v1] W (mnil) (fun v m' => ∃ (s0 : Value), v = .tuple #[s0, .int .i64 ((bAppend d0 d1).2)] ∧ Ow (.sl .byte) m' [s0] ((bAppend d0 d1).1)) := by
  obtain ⟨A0, c0, rfl, l0, k0⟩ := h0.slice
  simp only [maxLen] at k0
  obtain ⟨A1, c1, rfl, l1, k1⟩ := h1.slice
  simp only [maxLen] at k1
  refine CallR.ofA (n := 72) Try.func31 rfl rfl rfl ?_
  refine VC.rs ?_
  refine VO.as ?_
  refine VO.as ?_
  refine VO.k4 0 1 4 5 ?_
  refine VC.rs ?_
  refine VO.mv ?_
  refine VO.callN 101 rfl fnOk32 rfl (fun W hW => rbCheck_ok W (Rd.mono h1 (hW.at (i := 0) rfl))) (fun v1 m1 hv1 => ?_)
  subst hv1
  have hfa2 := batchCheck_range d1
  refine VO.as ?_
  refine VO.k5 0 1 4 5 6 ?_
  refine VC.seq ?_
  refine VC.rs ?_
  refine VO.mv ?_
  refine VO.y rfl (.neq rfl rfl) ?_
  refine VO.k6 0 1 4 5 6 16 ?_
  refine VC.cond rfl (fun hc3 => ?_) (fun hc3 => ?_)
  · -- T
    refine VC.rs ?_
    refine VO.mv ?_
    refine VO.as ?_
    refine VO.as ?_
    refine VO.k6 0 1 4 5 6 16 ?_
    refine VC.ret ?_
    refine outR ?_
    refine ⟨_, _, res_run (rs := [.tmp 4, .tmp 5]) rfl (.tmp rfl (.tmp rfl .nil)), fun W_ hI => out_of (l := []) hI [] rfl rfl (mle_refl _) (fun hS_ => ?_)⟩
    dsimp only [packV]
    have he0 : ((bAppend d0 d1).1 : Ty.Den (.sl .byte)) = [] := by first | rfl | (first | (rw [bAppend_bad ‹_›] <;> rfl) | (rw [bAppend_good (by omega)]; dsimp only; rw [← he, List.drop_of_length_le (by omega)]; simp [encOps]))
    refine ⟨Value.slice none (0) (0), ?_, ?_⟩
    rotate_left
    · rw [he0]; exact (Ow.nil _ _)
    all_goals (first | rfl | (first | (rw [bAppend_bad ‹_›] <;> rfl) | (rw [bAppend_good (by omega)] <;> rfl)))
  · -- F
    refine VC.skip ?_
    refine outN ?_
    refine VC.rs ?_
    refine VO.mv ?_
    refine VO.mv ?_
    refine VO.y rfl (.lenS rfl tsl22) ?_
    refine VO.callN 104 rfl fnOk98 rfl (fun W hW => rPut_ok W (Rd.mono h0 (hW.at (i := 0) rfl)) ((d1.length : Nat) : Int) (by simp only [inK]; (first | omega | (have ho_ := batchCheck_mem (by omega : batchCheck d1 = 0) (List.mem_of_getElem? ‹d1[k]? = some _›); have := ho_.2.1; have := ho_.2.2.1; have := encOp_len (last := last) ho_; have := (batch_len (by omega : batchCheck d1 = 0)).2; omega) | (have ho_ := batchCheck_mem (by omega : batchCheck d1 = 0) (List.mem_of_getElem? ‹d1[k]? = some _›); have := ho_.2.1; have := ho_.2.2.1; have := (batch_len (by omega : batchCheck d1 = 0)).2; simp only [List.length_append, List.length_nil, List.length_cons, List.length_take, List.length_drop] at *; omega))) (by first | omega | (have ho_ := batchCheck_mem (by omega : batchCheck d1 = 0) (List.mem_of_getElem? ‹d1[k]? = some _›); have := ho_.2.1; have := ho_.2.2.1; have := encOp_len (last := last) ho_; have := (batch_len (by omega : batchCheck d1 = 0)).2; omega) | (have ho_ := batchCheck_mem (by omega : batchCheck d1 = 0) (List.mem_of_getElem? ‹d1[k]? = some _›); have := ho_.2.1; have := ho_.2.2.1; have := (batch_len (by omega : batchCheck d1 = 0)).2; simp only [List.length_append, List.length_nil, List.length_cons, List.length_take, List.length_drop] at *; omega)) (by first | omega | (have ho_ := batchCheck_mem (by omega : batchCheck d1 = 0) (List.mem_of_getElem? ‹d1[k]? = some _›); have := ho_.2.1; have := ho_.2.2.1; have := encOp_len (last := last) ho_; have := (batch_len (by omega : batchCheck d1 = 0)).2; omega) | (have ho_ := batchCheck_mem (by omega : batchCheck d1 = 0) (List.mem_of_getElem? ‹d1[k]? = some _›); have := ho_.2.1; have := ho_.2.2.1; have := (batch_len (by omega : batchCheck d1 = 0)).2; simp only [List.length_append, List.length_nil, List.length_cons, List.length_take, List.length_drop] at *; omega))) (fun v4 m4 hv4 => ?_)
    obtain ⟨s4_0, rfl, f4_0⟩ := hv4
    obtain ⟨A4_0, c4_0, eq4_0, l4_0, k4_0⟩ := f4_0.slice
    subst eq4_0
    simp only [maxLen] at k4_0
    have hfa5 := venc_len (x := ((d1.length : Nat) : Int).toNat) (by omega)
    refine VO.as ?_
    refine VO.k7 0 1 4 5 6 7 16 ?_
    refine VC.rs ?_
    refine VO.as ?_
    refine VO.k8 0 1 4 5 6 7 8 16 ?_
    refine VC.seq ?_
    refine VC.rs ?_
    refine VO.as ?_
    refine VO.k9 0 1 4 5 6 7 8 9 16 ?_
    refine VC.block ?_
    refine VC.loop (G := Nat × (List UInt8) × (List UInt8) × (Option Addr) × Nat × Mem) (fun g => [(7, Value.slice (g.2.2.2.1) ((g.2.2.1).length) ((g.2.2.2.2.1))), (8, str ((g.2.1))), (9, Value.int .i64 ((((g.1) : Nat) : Int))), (0, Value.slice A0 (d0.length) (c0)), (1, Value.slice A1 (d1.length) (c1)), (4, Value.slice none (0) (0)), (5, Value.int .i64 (0)), (6, Value.int .i64 (batchCheck d1)), (16, Value.bool (decide (¬ (batchCheck d1) = 0)))]) (fun g => [(104, (g.2.2.2.2.2)), (0, wm W)]) (fun g => ((g.1) ≤ d1.length) ∧ ((g.2.2.1) ++ encOps (g.2.1) (d1.drop (g.1)) = d0 ++ batchEnc d1) ∧ ((g.2.2.1).length ≤ d0.length + 10 + 80 * (g.1)) ∧ ((g.2.1).length ≤ 16) ∧ (OwnL .byte (g.2.2.2.2.2) mnil (.slice (g.2.2.2.1) (g.2.2.1).length (g.2.2.2.2.1)) (g.2.2.1))) (fun g => d1.length - (g.1)) (0, [], d0 ++ venc ((d1.length : Nat) : Int).toNat, A4_0, c4_0, m4) (⟨by omega, by (simp [batchEnc]), by (have := venc_len (x := d1.length) (by omega); simp; omega), by (simp; done), (Ow.ownl f4_0 rfl mnil)⟩) ⟨⟨rfl, rfl, rfl, rfl, rfl, rfl, rfl, rfl, rfl, trivial⟩, fun _ h => h.sub [104, 0]⟩ ?_
    rintro ⟨k, last, out, out_A, out_c, out_m⟩ ⟨hk, he, hlo, hla, h_out⟩
    replace hk : k ≤ d1.length := hk
    replace he : out ++ encOps last (d1.drop k) = d0 ++ batchEnc d1 := he
    replace hlo : out.length ≤ d0.length + 10 + 80 * k := hlo
    replace hla : last.length ≤ 16 := hla
    replace h_out : OwnL .byte out_m mnil (.slice out_A out.length out_c) out := h_out
    show VC _ _ _ _ _ [(7, Value.slice out_A (out.length) (out_c)), (8, str (last)), (9, Value.int .i64 (((k : Nat) : Int))), (0, Value.slice A0 (d0.length) (c0)), (1, Value.slice A1 (d1.length) (c1)), (4, Value.slice none (0) (0)), (5, Value.int .i64 (0)), (6, Value.int .i64 (batchCheck d1)), (16, Value.bool (decide (¬ (batchCheck d1) = 0)))] [(104, out_m), (0, wm W)]
    have l_out : out.length ≤ out_c := by obtain ⟨_, _, he, hl, _⟩ := h_out.slice; simp only [Value.slice.injEq] at he; omega
    have k_out : out_c ≤ 9223372036854775807 := by obtain ⟨_, _, he, _, hl⟩ := h_out.slice; simp only [Value.slice.injEq, maxLen] at he hl; omega
    refine VC.seq ?_
    refine VC.rs ?_
    refine VO.mv ?_
    refine VO.mv ?_
    refine VO.y rfl (.lenS rfl tsl22) ?_
    refine VO.y rfl (.lss rfl rfl) ?_
    refine VO.k10 0 1 4 5 6 7 8 9 16 25 ?_
    refine VC.cond rfl (fun hc6 => ?_) (fun hc6 => ?_)
    · -- FT
      refine VC.skip ?_
      refine outN ?_
      refine VC.seq ?_
      refine VC.block ?_
      refine VC.rs ?_
      refine VO.mv ?_
      refine VO.mv ?_
      obtain ⟨x7, hx7⟩ : ∃ z_, (d1)[k]? = some z_ := ⟨_, List.getElem?_eq_getElem (by first | omega | (have ho_ := batchCheck_mem (by omega : batchCheck d1 = 0) (List.mem_of_getElem? ‹d1[k]? = some _›); have := ho_.2.1; have := ho_.2.2.1; have := encOp_len (last := last) ho_; have := (batch_len (by omega : batchCheck d1 = 0)).2; omega) | (have ho_ := batchCheck_mem (by omega : batchCheck d1 = 0) (List.mem_of_getElem? ‹d1[k]? = some _›); have := ho_.2.1; have := ho_.2.2.1; have := (batch_len (by omega : batchCheck d1 = 0)).2; simp only [List.length_append, List.length_nil, List.length_cons, List.length_take, List.length_drop] at *; omega))⟩
      obtain ⟨gg7, oo7, ec7, ea7, hce7, hre7⟩ := h1.elem hx7
      cases ea7
      obtain ⟨rfl, q7_1, q7_2⟩ := open_Op (x0 := x7.1) (x1 := x7.2.1) (x2 := x7.2.2) hre7
      simp only [maxLen] at q7_1
      simp only [maxLen] at q7_2
      refine VO.y rfl (.ixI k rfl rfl tsl22 rfl (by first | omega | (have ho_ := batchCheck_mem (by omega : batchCheck d1 = 0) (List.mem_of_getElem? ‹d1[k]? = some _›); have := ho_.2.1; have := ho_.2.2.1; have := encOp_len (last := last) ho_; have := (batch_len (by omega : batchCheck d1 = 0)).2; omega) | (have ho_ := batchCheck_mem (by omega : batchCheck d1 = 0) (List.mem_of_getElem? ‹d1[k]? = some _›); have := ho_.2.1; have := ho_.2.2.1; have := (batch_len (by omega : batchCheck d1 = 0)).2; simp only [List.length_append, List.length_nil, List.length_cons, List.length_take, List.length_drop] at *; omega))) ?_
      refine VO.y rfl (.ldA 0 rfl tk49 rfl hce7) ?_
      refine VO.alloc 109 rfl tz49 (fun g8 => ?_)
      refine VO.store (k := 3) (c' := [Value.bool x7.1, str (x7.2.1), str (x7.2.2)]) 109 rfl rfl (.inl tk49) rfl rfl rfl rfl rfl ?_
      refine VO.k11 0 1 4 5 6 7 8 9 10 16 25 ?_
      refine VC.rs ?_
      refine VO.as ?_
      refine VO.k12 0 1 4 5 6 7 8 9 10 11 16 25 ?_
      refine VC.seq ?_
      refine VC.rs ?_
      refine VO.y rfl (.fa rfl tst49 rfl) ?_
      refine VO.y rfl (.ld1 109 rfl tk4 rfl (cellsAt_one rfl rfl)) ?_
      refine VO.k13 0 1 4 5 6 7 8 9 10 11 16 25 33 ?_
      refine VC.condB rfl (fun hc10 => ?_) (fun hc10 => ?_)
      · -- FTT
        refine VC.reg ?_
        refine VO.as ?_
        refine VO.k13 0 1 4 5 6 7 8 9 10 11 16 25 33 ?_
        refine outN ?_
        refine VC.rs ?_
        refine VO.mv ?_
        refine VO.mv ?_
        refine VO.bsl (cs := [Value.int .u8 (1)]) 112 rfl rfl tsl23 tz5 rfl rfl (fun g11 => ?_)
        obtain ⟨mo13, cs13, hM13, hA13, hC13⟩ := h_out
        refine VO.app 104 rfl rfl rfl tsl23 tz5 rfl rfl hM13 hA13 (.row 112 _ _ _ 1 1 _ _ Try.underlying23 rfl (cellsAt_one rfl rfl)) (by simp [Value.oneCell']) (by simp only [maxLen]; (first | omega | (have ho_ := batchCheck_mem (by omega : batchCheck d1 = 0) (List.mem_of_getElem? ‹d1[k]? = some _›); have := ho_.2.1; have := ho_.2.2.1; have := encOp_len (last := last) ho_; have := (batch_len (by omega : batchCheck d1 = 0)).2; omega) | (have ho_ := batchCheck_mem (by omega : batchCheck d1 = 0) (List.mem_of_getElem? ‹d1[k]? = some _›); have := ho_.2.1; have := ho_.2.2.1; have := (batch_len (by omega : batchCheck d1 = 0)).2; simp only [List.length_append, List.length_nil, List.length_cons, List.length_take, List.length_drop] at *; omega))) (by first | omega | (have ho_ := batchCheck_mem (by omega : batchCheck d1 = 0) (List.mem_of_getElem? ‹d1[k]? = some _›); have := ho_.2.1; have := ho_.2.2.1; have := encOp_len (last := last) ho_; have := (batch_len (by omega : batchCheck d1 = 0)).2; omega) | (have ho_ := batchCheck_mem (by omega : batchCheck d1 = 0) (List.mem_of_getElem? ‹d1[k]? = some _›); have := ho_.2.1; have := ho_.2.2.1; have := (batch_len (by omega : batchCheck d1 = 0)).2; simp only [List.length_append, List.length_nil, List.length_cons, List.length_take, List.length_drop] at *; omega)) (by decide) (fun v13 m13 hN13 => ?_)
        have ho13 : OwnL .byte m13 mnil v13 (out ++ [UInt8.ofNat 1]) := OwnL.one hC13 hN13 (rd_byteN (by first | omega | (have ho_ := batchCheck_mem (by omega : batchCheck d1 = 0) (List.mem_of_getElem? ‹d1[k]? = some _›); have := ho_.2.1; have := ho_.2.2.1; have := encOp_len (last := last) ho_; have := (batch_len (by omega : batchCheck d1 = 0)).2; omega) | (have ho_ := batchCheck_mem (by omega : batchCheck d1 = 0) (List.mem_of_getElem? ‹d1[k]? = some _›); have := ho_.2.1; have := ho_.2.2.1; have := (batch_len (by omega : batchCheck d1 = 0)).2; simp only [List.length_append, List.length_nil, List.length_cons, List.length_take, List.length_drop] at *; omega)))
        obtain ⟨A13, c13, rfl, l13, k13⟩ := ho13.slice
        simp only [maxLen] at k13
        refine VO.as ?_
        refine VO.inv [(109, _), (104, _), (0, _)] (fun _ h => h.sub [109, 104, 0]) ?_
        refine VO.k13 0 1 4 5 6 7 8 9 10 11 16 25 33 ?_
        refine VC.rs ?_
        refine VO.mv ?_
        refine VO.y rfl (.fa rfl tst49 rfl) ?_
        refine VO.y rfl (.ld1 109 rfl tk9 rfl (cellsAt_one rfl rfl)) ?_
        refine VO.callN 114 rfl fnOk40 rfl (fun W hW => rShared_ok W last (by simp only [maxLen]; (first | omega | (have ho_ := batchCheck_mem (by omega : batchCheck d1 = 0) (List.mem_of_getElem? ‹d1[k]? = some _›); have := ho_.2.1; have := ho_.2.2.1; have := encOp_len (last := last) ho_; have := (batch_len (by omega : batchCheck d1 = 0)).2; omega) | (have ho_ := batchCheck_mem (by omega : batchCheck d1 = 0) (List.mem_of_getElem? ‹d1[k]? = some _›); have := ho_.2.1; have := ho_.2.2.1; have := (batch_len (by omega : batchCheck d1 = 0)).2; simp only [List.length_append, List.length_nil, List.length_cons, List.length_take, List.length_drop] at *; omega))) x7.2.1 (by simp only [maxLen]; (first | omega | (have ho_ := batchCheck_mem (by omega : batchCheck d1 = 0) (List.mem_of_getElem? ‹d1[k]? = some _›); have := ho_.2.1; have := ho_.2.2.1; have := encOp_len (last := last) ho_; have := (batch_len (by omega : batchCheck d1 = 0)).2; omega) | (have ho_ := batchCheck_mem (by omega : batchCheck d1 = 0) (List.mem_of_getElem? ‹d1[k]? = some _›); have := ho_.2.1; have := ho_.2.2.1; have := (batch_len (by omega : batchCheck d1 = 0)).2; simp only [List.length_append, List.length_nil, List.length_cons, List.length_take, List.length_drop] at *; omega)))) (fun v14 m14 hv14 => ?_)
        subst hv14
        have hfa15 := shared_le last x7.2.1
        refine VO.as ?_
        refine VO.k14 0 1 4 5 6 7 8 9 10 11 12 16 25 33 ?_
        refine VC.rs ?_
        refine VO.mv ?_
        refine VO.mv ?_
        refine VO.callN 116 rfl fnOk98 rfl (fun W hW => rPut_ok W (OwnL.rd ho13 (hW.at (i := 104) rfl) (mle_nil _)) ((shared last x7.2.1 : Nat) : Int) (by simp only [inK]; (first | omega | (have ho_ := batchCheck_mem (by omega : batchCheck d1 = 0) (List.mem_of_getElem? ‹d1[k]? = some _›); have := ho_.2.1; have := ho_.2.2.1; have := encOp_len (last := last) ho_; have := (batch_len (by omega : batchCheck d1 = 0)).2; omega) | (have ho_ := batchCheck_mem (by omega : batchCheck d1 = 0) (List.mem_of_getElem? ‹d1[k]? = some _›); have := ho_.2.1; have := ho_.2.2.1; have := (batch_len (by omega : batchCheck d1 = 0)).2; simp only [List.length_append, List.length_nil, List.length_cons, List.length_take, List.length_drop] at *; omega))) (by first | omega | (have ho_ := batchCheck_mem (by omega : batchCheck d1 = 0) (List.mem_of_getElem? ‹d1[k]? = some _›); have := ho_.2.1; have := ho_.2.2.1; have := encOp_len (last := last) ho_; have := (batch_len (by omega : batchCheck d1 = 0)).2; omega) | (have ho_ := batchCheck_mem (by omega : batchCheck d1 = 0) (List.mem_of_getElem? ‹d1[k]? = some _›); have := ho_.2.1; have := ho_.2.2.1; have := (batch_len (by omega : batchCheck d1 = 0)).2; simp only [List.length_append, List.length_nil, List.length_cons, List.length_take, List.length_drop] at *; omega)) (by first | omega | (have ho_ := batchCheck_mem (by omega : batchCheck d1 = 0) (List.mem_of_getElem? ‹d1[k]? = some _›); have := ho_.2.1; have := ho_.2.2.1; have := encOp_len (last := last) ho_; have := (batch_len (by omega : batchCheck d1 = 0)).2; omega) | (have ho_ := batchCheck_mem (by omega : batchCheck d1 = 0) (List.mem_of_getElem? ‹d1[k]? = some _›); have := ho_.2.1; have := ho_.2.2.1; have := (batch_len (by omega : batchCheck d1 = 0)).2; simp only [List.length_append, List.length_nil, List.length_cons, List.length_take, List.length_drop] at *; omega))) (fun v16 m16 hv16 => ?_)
        obtain ⟨s16_0, rfl, f16_0⟩ := hv16
        obtain ⟨A16_0, c16_0, eq16_0, l16_0, k16_0⟩ := f16_0.slice
        subst eq16_0
        simp only [maxLen] at k16_0
        have hfa17 := venc_len (x := ((shared last x7.2.1 : Nat) : Int).toNat) (by omega)
        refine VO.as ?_
        refine VO.k14 0 1 4 5 6 7 8 9 10 11 12 16 25 33 ?_
        refine VC.rs ?_
        refine VO.mv ?_
        refine VO.y rfl (.fa rfl tst49 rfl) ?_
        refine VO.y rfl (.ld1 109 rfl tk9 rfl (cellsAt_one rfl rfl)) ?_
        refine VO.y rfl (.lenT rfl Try.underlying9) ?_
        refine VO.mv ?_
        refine VO.y rfl (.sub rfl rfl rfl ⟨by first | omega | (have ho_ := batchCheck_mem (by omega : batchCheck d1 = 0) (List.mem_of_getElem? ‹d1[k]? = some _›); have := ho_.2.1; have := ho_.2.2.1; have := encOp_len (last := last) ho_; have := (batch_len (by omega : batchCheck d1 = 0)).2; omega) | (have ho_ := batchCheck_mem (by omega : batchCheck d1 = 0) (List.mem_of_getElem? ‹d1[k]? = some _›); have := ho_.2.1; have := ho_.2.2.1; have := (batch_len (by omega : batchCheck d1 = 0)).2; simp only [List.length_append, List.length_nil, List.length_cons, List.length_take, List.length_drop] at *; omega), by first | omega | (have ho_ := batchCheck_mem (by omega : batchCheck d1 = 0) (List.mem_of_getElem? ‹d1[k]? = some _›); have := ho_.2.1; have := ho_.2.2.1; have := encOp_len (last := last) ho_; have := (batch_len (by omega : batchCheck d1 = 0)).2; omega) | (have ho_ := batchCheck_mem (by omega : batchCheck d1 = 0) (List.mem_of_getElem? ‹d1[k]? = some _›); have := ho_.2.1; have := ho_.2.2.1; have := (batch_len (by omega : batchCheck d1 = 0)).2; simp only [List.length_append, List.length_nil, List.length_cons, List.length_take, List.length_drop] at *; omega)⟩) ?_
        refine VO.callN 118 rfl fnOk98 rfl (fun W hW => rPut_ok W (OwnL.rd (Ow.ownl f16_0 rfl mnil) (hW.at (i := 116) rfl) (mle_nil _)) (((x7.2.1.length : Nat) : Int) - ((shared last x7.2.1 : Nat) : Int)) (by simp only [inK]; (first | omega | (have ho_ := batchCheck_mem (by omega : batchCheck d1 = 0) (List.mem_of_getElem? ‹d1[k]? = some _›); have := ho_.2.1; have := ho_.2.2.1; have := encOp_len (last := last) ho_; have := (batch_len (by omega : batchCheck d1 = 0)).2; omega) | (have ho_ := batchCheck_mem (by omega : batchCheck d1 = 0) (List.mem_of_getElem? ‹d1[k]? = some _›); have := ho_.2.1; have := ho_.2.2.1; have := (batch_len (by omega : batchCheck d1 = 0)).2; simp only [List.length_append, List.length_nil, List.length_cons, List.length_take, List.length_drop] at *; omega))) (by first | omega | (have ho_ := batchCheck_mem (by omega : batchCheck d1 = 0) (List.mem_of_getElem? ‹d1[k]? = some _›); have := ho_.2.1; have := ho_.2.2.1; have := encOp_len (last := last) ho_; have := (batch_len (by omega : batchCheck d1 = 0)).2; omega) | (have ho_ := batchCheck_mem (by omega : batchCheck d1 = 0) (List.mem_of_getElem? ‹d1[k]? = some _›); have := ho_.2.1; have := ho_.2.2.1; have := (batch_len (by omega : batchCheck d1 = 0)).2; simp only [List.length_append, List.length_nil, List.length_cons, List.length_take, List.length_drop] at *; omega)) (by first | omega | (have ho_ := batchCheck_mem (by omega : batchCheck d1 = 0) (List.mem_of_getElem? ‹d1[k]? = some _›); have := ho_.2.1; have := ho_.2.2.1; have := encOp_len (last := last) ho_; have := (batch_len (by omega : batchCheck d1 = 0)).2; omega) | (have ho_ := batchCheck_mem (by omega : batchCheck d1 = 0) (List.mem_of_getElem? ‹d1[k]? = some _›); have := ho_.2.1; have := ho_.2.2.1; have := (batch_len (by omega : batchCheck d1 = 0)).2; simp only [List.length_append, List.length_nil, List.length_cons, List.length_take, List.length_drop] at *; omega))) (fun v18 m18 hv18 => ?_)
        obtain ⟨s18_0, rfl, f18_0⟩ := hv18
        obtain ⟨A18_0, c18_0, eq18_0, l18_0, k18_0⟩ := f18_0.slice
        subst eq18_0
        simp only [maxLen] at k18_0
        have hfa19 := venc_len (x := (((x7.2.1.length : Nat) : Int) - ((shared last x7.2.1 : Nat) : Int)).toNat) (by omega)
        refine VO.as ?_
        refine VO.k14 0 1 4 5 6 7 8 9 10 11 12 16 25 33 ?_
        refine VC.rs ?_
        refine VO.mv ?_
        refine VO.y rfl (.fa rfl tst49 rfl) ?_
        refine VO.y rfl (.ld1 109 rfl tk9 rfl (cellsAt_one rfl rfl)) ?_
        refine VO.mv ?_
        refine VO.y rfl (.slTLI (shared last x7.2.1) rfl rfl Try.underlying9 rfl (by first | omega | (have ho_ := batchCheck_mem (by omega : batchCheck d1 = 0) (List.mem_of_getElem? ‹d1[k]? = some _›); have := ho_.2.1; have := ho_.2.2.1; have := encOp_len (last := last) ho_; have := (batch_len (by omega : batchCheck d1 = 0)).2; omega) | (have ho_ := batchCheck_mem (by omega : batchCheck d1 = 0) (List.mem_of_getElem? ‹d1[k]? = some _›); have := ho_.2.1; have := ho_.2.2.1; have := (batch_len (by omega : batchCheck d1 = 0)).2; simp only [List.length_append, List.length_nil, List.length_cons, List.length_take, List.length_drop] at *; omega))) ?_
        obtain ⟨mo20, cs20, hM20, hA20, hC20⟩ := (Ow.ownl f18_0 rfl mnil)
        refine VO.app 118 rfl rfl rfl tsl23 tz5 rfl rfl hM20 hA20 (.str _ Try.underlying9 rfl) (byV_nice _) (by simp only [maxLen]; (first | omega | (have ho_ := batchCheck_mem (by omega : batchCheck d1 = 0) (List.mem_of_getElem? ‹d1[k]? = some _›); have := ho_.2.1; have := ho_.2.2.1; have := encOp_len (last := last) ho_; have := (batch_len (by omega : batchCheck d1 = 0)).2; omega) | (have ho_ := batchCheck_mem (by omega : batchCheck d1 = 0) (List.mem_of_getElem? ‹d1[k]? = some _›); have := ho_.2.1; have := ho_.2.2.1; have := (batch_len (by omega : batchCheck d1 = 0)).2; simp only [List.length_append, List.length_nil, List.length_cons, List.length_take, List.length_drop] at *; omega))) (by first | omega | (have ho_ := batchCheck_mem (by omega : batchCheck d1 = 0) (List.mem_of_getElem? ‹d1[k]? = some _›); have := ho_.2.1; have := ho_.2.2.1; have := encOp_len (last := last) ho_; have := (batch_len (by omega : batchCheck d1 = 0)).2; omega) | (have ho_ := batchCheck_mem (by omega : batchCheck d1 = 0) (List.mem_of_getElem? ‹d1[k]? = some _›); have := ho_.2.1; have := ho_.2.2.1; have := (batch_len (by omega : batchCheck d1 = 0)).2; simp only [List.length_append, List.length_nil, List.length_cons, List.length_take, List.length_drop] at *; omega)) (by decide) (fun v20 m20 hN20 => ?_)
        have ho20 : OwnL .byte m20 mnil v20 ((((out ++ [UInt8.ofNat 1]) ++ venc ((shared last x7.2.1 : Nat) : Int).toNat) ++ venc (((x7.2.1.length : Nat) : Int) - ((shared last x7.2.1 : Nat) : Int)).toNat) ++ (x7.2.1.drop (shared last x7.2.1))) := OwnL.more hC20 hN20 (rd_str _ _)
        obtain ⟨A20, c20, rfl, l20, k20⟩ := ho20.slice
        simp only [maxLen] at k20
        refine VO.as ?_
        refine VO.k14 0 1 4 5 6 7 8 9 10 11 12 16 25 33 ?_
        refine VC.seq ?_
        refine VC.rs ?_
        refine VO.y rfl (.fa rfl tst49 rfl) ?_
        refine VO.y rfl (.ld1 109 rfl tk4 rfl (cellsAt_one rfl rfl)) ?_
        refine VO.k15 0 1 4 5 6 7 8 9 10 11 12 16 25 33 59 ?_
        refine VC.condKT rfl hc10 ?_
        refine VC.rs ?_
        refine VO.mv ?_
        refine VO.y rfl (.fa rfl tst49 rfl) ?_
        refine VO.y rfl (.ld1 109 rfl tk9 rfl (cellsAt_one rfl rfl)) ?_
        refine VO.y rfl (.lenT rfl Try.underlying9) ?_
        refine VO.callN 121 rfl fnOk98 rfl (fun W hW => rPut_ok W (OwnL.rd ho20 (hW.at (i := 118) rfl) (mle_nil _)) ((x7.2.2.length : Nat) : Int) (by simp only [inK]; (first | omega | (have ho_ := batchCheck_mem (by omega : batchCheck d1 = 0) (List.mem_of_getElem? ‹d1[k]? = some _›); have := ho_.2.1; have := ho_.2.2.1; have := encOp_len (last := last) ho_; have := (batch_len (by omega : batchCheck d1 = 0)).2; omega) | (have ho_ := batchCheck_mem (by omega : batchCheck d1 = 0) (List.mem_of_getElem? ‹d1[k]? = some _›); have := ho_.2.1; have := ho_.2.2.1; have := (batch_len (by omega : batchCheck d1 = 0)).2; simp only [List.length_append, List.length_nil, List.length_cons, List.length_take, List.length_drop] at *; omega))) (by first | omega | (have ho_ := batchCheck_mem (by omega : batchCheck d1 = 0) (List.mem_of_getElem? ‹d1[k]? = some _›); have := ho_.2.1; have := ho_.2.2.1; have := encOp_len (last := last) ho_; have := (batch_len (by omega : batchCheck d1 = 0)).2; omega) | (have ho_ := batchCheck_mem (by omega : batchCheck d1 = 0) (List.mem_of_getElem? ‹d1[k]? = some _›); have := ho_.2.1; have := ho_.2.2.1; have := (batch_len (by omega : batchCheck d1 = 0)).2; simp only [List.length_append, List.length_nil, List.length_cons, List.length_take, List.length_drop] at *; omega)) (by first | omega | (have ho_ := batchCheck_mem (by omega : batchCheck d1 = 0) (List.mem_of_getElem? ‹d1[k]? = some _›); have := ho_.2.1; have := ho_.2.2.1; have := encOp_len (last := last) ho_; have := (batch_len (by omega : batchCheck d1 = 0)).2; omega) | (have ho_ := batchCheck_mem (by omega : batchCheck d1 = 0) (List.mem_of_getElem? ‹d1[k]? = some _›); have := ho_.2.1; have := ho_.2.2.1; have := (batch_len (by omega : batchCheck d1 = 0)).2; simp only [List.length_append, List.length_nil, List.length_cons, List.length_take, List.length_drop] at *; omega))) (fun v21 m21 hv21 => ?_)
        obtain ⟨s21_0, rfl, f21_0⟩ := hv21
        obtain ⟨A21_0, c21_0, eq21_0, l21_0, k21_0⟩ := f21_0.slice
        subst eq21_0
        simp only [maxLen] at k21_0
        have hfa22 := venc_len (x := ((x7.2.2.length : Nat) : Int).toNat) (by omega)
        refine VO.as ?_
        refine VO.k15 0 1 4 5 6 7 8 9 10 11 12 16 25 33 59 ?_
        refine VC.reg ?_
        refine VO.mv ?_
        refine VO.y rfl (.fa rfl tst49 rfl) ?_
        refine VO.y rfl (.ld1 109 rfl tk9 rfl (cellsAt_one rfl rfl)) ?_
        obtain ⟨mo23, cs23, hM23, hA23, hC23⟩ := (Ow.ownl f21_0 rfl mnil)
        refine VO.app 121 rfl rfl rfl tsl23 tz5 rfl rfl hM23 hA23 (.str _ Try.underlying9 rfl) (byV_nice _) (by simp only [maxLen]; (first | omega | (have ho_ := batchCheck_mem (by omega : batchCheck d1 = 0) (List.mem_of_getElem? ‹d1[k]? = some _›); have := ho_.2.1; have := ho_.2.2.1; have := encOp_len (last := last) ho_; have := (batch_len (by omega : batchCheck d1 = 0)).2; omega) | (have ho_ := batchCheck_mem (by omega : batchCheck d1 = 0) (List.mem_of_getElem? ‹d1[k]? = some _›); have := ho_.2.1; have := ho_.2.2.1; have := (batch_len (by omega : batchCheck d1 = 0)).2; simp only [List.length_append, List.length_nil, List.length_cons, List.length_take, List.length_drop] at *; omega))) (by first | omega | (have ho_ := batchCheck_mem (by omega : batchCheck d1 = 0) (List.mem_of_getElem? ‹d1[k]? = some _›); have := ho_.2.1; have := ho_.2.2.1; have := encOp_len (last := last) ho_; have := (batch_len (by omega : batchCheck d1 = 0)).2; omega) | (have ho_ := batchCheck_mem (by omega : batchCheck d1 = 0) (List.mem_of_getElem? ‹d1[k]? = some _›); have := ho_.2.1; have := ho_.2.2.1; have := (batch_len (by omega : batchCheck d1 = 0)).2; simp only [List.length_append, List.length_nil, List.length_cons, List.length_take, List.length_drop] at *; omega)) (by decide) (fun v23 m23 hN23 => ?_)
        have ho23 : OwnL .byte m23 mnil v23 ((((((out ++ [UInt8.ofNat 1]) ++ venc ((shared last x7.2.1 : Nat) : Int).toNat) ++ venc (((x7.2.1.length : Nat) : Int) - ((shared last x7.2.1 : Nat) : Int)).toNat) ++ (x7.2.1.drop (shared last x7.2.1))) ++ venc ((x7.2.2.length : Nat) : Int).toNat) ++ x7.2.2) := OwnL.more hC23 hN23 (rd_str _ _)
        obtain ⟨A23, c23, rfl, l23, k23⟩ := ho23.slice
        simp only [maxLen] at k23
        refine VO.as ?_
        refine VO.k15 0 1 4 5 6 7 8 9 10 11 12 16 25 33 59 ?_
        refine outN ?_
        refine VC.reg ?_
        refine VO.y rfl (.fa rfl tst49 rfl) ?_
        refine VO.y rfl (.ld1 109 rfl tk9 rfl (cellsAt_one rfl rfl)) ?_
        refine VO.as ?_
        refine VO.k15 0 1 4 5 6 7 8 9 10 11 12 16 25 33 59 ?_
        refine outBN ?_
        refine outN ?_
        refine VC.reg ?_
        refine VO.mv ?_
        refine VO.y rfl (.add (c := ((k + 1 : Nat) : Int)) rfl rfl (by omega) ⟨by first | omega | (have ho_ := batchCheck_mem (by omega : batchCheck d1 = 0) (List.mem_of_getElem? ‹d1[k]? = some _›); have := ho_.2.1; have := ho_.2.2.1; have := encOp_len (last := last) ho_; have := (batch_len (by omega : batchCheck d1 = 0)).2; omega) | (have ho_ := batchCheck_mem (by omega : batchCheck d1 = 0) (List.mem_of_getElem? ‹d1[k]? = some _›); have := ho_.2.1; have := ho_.2.2.1; have := (batch_len (by omega : batchCheck d1 = 0)).2; simp only [List.length_append, List.length_nil, List.length_cons, List.length_take, List.length_drop] at *; omega), by first | omega | (have ho_ := batchCheck_mem (by omega : batchCheck d1 = 0) (List.mem_of_getElem? ‹d1[k]? = some _›); have := ho_.2.1; have := ho_.2.2.1; have := encOp_len (last := last) ho_; have := (batch_len (by omega : batchCheck d1 = 0)).2; omega) | (have ho_ := batchCheck_mem (by omega : batchCheck d1 = 0) (List.mem_of_getElem? ‹d1[k]? = some _›); have := ho_.2.1; have := ho_.2.2.1; have := (batch_len (by omega : batchCheck d1 = 0)).2; simp only [List.length_append, List.length_nil, List.length_cons, List.length_take, List.length_drop] at *; omega)⟩) ?_
        refine VO.as ?_
        refine VO.k15 0 1 4 5 6 7 8 9 10 11 12 16 25 33 59 ?_
        exact outN ⟨⟨k + 1, x7.2.1, (((((out ++ [UInt8.ofNat 1]) ++ venc ((shared last x7.2.1 : Nat) : Int).toNat) ++ venc (((x7.2.1.length : Nat) : Int) - ((shared last x7.2.1 : Nat) : Int)).toNat) ++ (x7.2.1.drop (shared last x7.2.1))) ++ venc ((x7.2.2.length : Nat) : Int).toNat) ++ x7.2.2, A23, c23, m23⟩, ⟨by omega, by exact enc_step2 he ‹d1[k]? = some _› (by first | (rw [enc_put (by assumption)]; simp only [List.append_assoc, List.cons_append, List.nil_append, List.singleton_append, Int.toNat_sub]; rfl) | (rw [enc_del (by assumption)]; simp only [List.append_assoc, List.cons_append, List.nil_append, List.singleton_append, Int.toNat_sub]; rfl)), by exact enc_len2 (last := last) hlo (by omega) ‹d1[k]? = some _› (by first | (rw [enc_put (by assumption)]; simp only [List.append_assoc, List.cons_append, List.nil_append, List.singleton_append, Int.toNat_sub]; rfl) | (rw [enc_del (by assumption)]; simp only [List.append_assoc, List.cons_append, List.nil_append, List.singleton_append, Int.toNat_sub]; rfl)), by (have ho_ := batchCheck_mem (by omega : batchCheck d1 = 0) (List.mem_of_getElem? ‹d1[k]? = some _›); have := ho_.2.1; have := ho_.2.2.1; have := encOp_len (last := last) ho_; have := (batch_len (by omega : batchCheck d1 = 0)).2; omega), ho23⟩, by first | omega | (have ho_ := batchCheck_mem (by omega : batchCheck d1 = 0) (List.mem_of_getElem? ‹d1[k]? = some _›); have := ho_.2.1; have := ho_.2.2.1; have := encOp_len (last := last) ho_; have := (batch_len (by omega : batchCheck d1 = 0)).2; omega) | (have ho_ := batchCheck_mem (by omega : batchCheck d1 = 0) (List.mem_of_getElem? ‹d1[k]? = some _›); have := ho_.2.1; have := ho_.2.2.1; have := (batch_len (by omega : batchCheck d1 = 0)).2; simp only [List.length_append, List.length_nil, List.length_cons, List.length_take, List.length_drop] at *; omega), ⟨⟨rfl, rfl, rfl, rfl, rfl, rfl, rfl, rfl, rfl, trivial⟩, fun _ h => Inv.sub (Inv.num h 121 104 rfl) [104, 0]⟩⟩
      · -- FTF
        refine VC.skip ?_
        refine outN ?_
        refine VC.rs ?_
        refine VO.mv ?_
        refine VO.mv ?_
        refine VO.bsl (cs := [Value.int .u8 (0)]) 125 rfl rfl tsl23 tz5 rfl rfl (fun g24 => ?_)
        obtain ⟨mo26, cs26, hM26, hA26, hC26⟩ := h_out
        refine VO.app 104 rfl rfl rfl tsl23 tz5 rfl rfl hM26 hA26 (.row 125 _ _ _ 1 1 _ _ Try.underlying23 rfl (cellsAt_one rfl rfl)) (by simp [Value.oneCell']) (by simp only [maxLen]; (first | omega | (have ho_ := batchCheck_mem (by omega : batchCheck d1 = 0) (List.mem_of_getElem? ‹d1[k]? = some _›); have := ho_.2.1; have := ho_.2.2.1; have := encOp_len (last := last) ho_; have := (batch_len (by omega : batchCheck d1 = 0)).2; omega) | (have ho_ := batchCheck_mem (by omega : batchCheck d1 = 0) (List.mem_of_getElem? ‹d1[k]? = some _›); have := ho_.2.1; have := ho_.2.2.1; have := (batch_len (by omega : batchCheck d1 = 0)).2; simp only [List.length_append, List.length_nil, List.length_cons, List.length_take, List.length_drop] at *; omega))) (by first | omega | (have ho_ := batchCheck_mem (by omega : batchCheck d1 = 0) (List.mem_of_getElem? ‹d1[k]? = some _›); have := ho_.2.1; have := ho_.2.2.1; have := encOp_len (last := last) ho_; have := (batch_len (by omega : batchCheck d1 = 0)).2; omega) | (have ho_ := batchCheck_mem (by omega : batchCheck d1 = 0) (List.mem_of_getElem? ‹d1[k]? = some _›); have := ho_.2.1; have := ho_.2.2.1; have := (batch_len (by omega : batchCheck d1 = 0)).2; simp only [List.length_append, List.length_nil, List.length_cons, List.length_take, List.length_drop] at *; omega)) (by decide) (fun v26 m26 hN26 => ?_)
        have ho26 : OwnL .byte m26 mnil v26 (out ++ [UInt8.ofNat 0]) := OwnL.one hC26 hN26 (rd_byteN (by first | omega | (have ho_ := batchCheck_mem (by omega : batchCheck d1 = 0) (List.mem_of_getElem? ‹d1[k]? = some _›); have := ho_.2.1; have := ho_.2.2.1; have := encOp_len (last := last) ho_; have := (batch_len (by omega : batchCheck d1 = 0)).2; omega) | (have ho_ := batchCheck_mem (by omega : batchCheck d1 = 0) (List.mem_of_getElem? ‹d1[k]? = some _›); have := ho_.2.1; have := ho_.2.2.1; have := (batch_len (by omega : batchCheck d1 = 0)).2; simp only [List.length_append, List.length_nil, List.length_cons, List.length_take, List.length_drop] at *; omega)))
        obtain ⟨A26, c26, rfl, l26, k26⟩ := ho26.slice
        simp only [maxLen] at k26
        refine VO.as ?_
        refine VO.k13 0 1 4 5 6 7 8 9 10 11 16 25 33 ?_
        refine VC.rs ?_
        refine VO.mv ?_
        refine VO.y rfl (.fa rfl tst49 rfl) ?_
        refine VO.y rfl (.ld1 109 rfl tk9 rfl (cellsAt_one rfl rfl)) ?_
        refine VO.callN 127 rfl fnOk40 rfl (fun W hW => rShared_ok W last (by simp only [maxLen]; (first | omega | (have ho_ := batchCheck_mem (by omega : batchCheck d1 = 0) (List.mem_of_getElem? ‹d1[k]? = some _›); have := ho_.2.1; have := ho_.2.2.1; have := encOp_len (last := last) ho_; have := (batch_len (by omega : batchCheck d1 = 0)).2; omega) | (have ho_ := batchCheck_mem (by omega : batchCheck d1 = 0) (List.mem_of_getElem? ‹d1[k]? = some _›); have := ho_.2.1; have := ho_.2.2.1; have := (batch_len (by omega : batchCheck d1 = 0)).2; simp only [List.length_append, List.length_nil, List.length_cons, List.length_take, List.length_drop] at *; omega))) x7.2.1 (by simp only [maxLen]; (first | omega | (have ho_ := batchCheck_mem (by omega : batchCheck d1 = 0) (List.mem_of_getElem? ‹d1[k]? = some _›); have := ho_.2.1; have := ho_.2.2.1; have := encOp_len (last := last) ho_; have := (batch_len (by omega : batchCheck d1 = 0)).2; omega) | (have ho_ := batchCheck_mem (by omega : batchCheck d1 = 0) (List.mem_of_getElem? ‹d1[k]? = some _›); have := ho_.2.1; have := ho_.2.2.1; have := (batch_len (by omega : batchCheck d1 = 0)).2; simp only [List.length_append, List.length_nil, List.length_cons, List.length_take, List.length_drop] at *; omega)))) (fun v27 m27 hv27 => ?_)
        subst hv27
        have hfa28 := shared_le last x7.2.1
        refine VO.as ?_
        refine VO.inv [(109, _), (104, _), (0, _)] (fun _ h => h.sub [109, 104, 0]) ?_
        refine VO.k14 0 1 4 5 6 7 8 9 10 11 12 16 25 33 ?_
        refine VC.rs ?_
        refine VO.mv ?_
        refine VO.mv ?_
        refine VO.callN 129 rfl fnOk98 rfl (fun W hW => rPut_ok W (OwnL.rd ho26 (hW.at (i := 104) rfl) (mle_nil _)) ((shared last x7.2.1 : Nat) : Int) (by simp only [inK]; (first | omega | (have ho_ := batchCheck_mem (by omega : batchCheck d1 = 0) (List.mem_of_getElem? ‹d1[k]? = some _›); have := ho_.2.1; have := ho_.2.2.1; have := encOp_len (last := last) ho_; have := (batch_len (by omega : batchCheck d1 = 0)).2; omega) | (have ho_ := batchCheck_mem (by omega : batchCheck d1 = 0) (List.mem_of_getElem? ‹d1[k]? = some _›); have := ho_.2.1; have := ho_.2.2.1; have := (batch_len (by omega : batchCheck d1 = 0)).2; simp only [List.length_append, List.length_nil, List.length_cons, List.length_take, List.length_drop] at *; omega))) (by first | omega | (have ho_ := batchCheck_mem (by omega : batchCheck d1 = 0) (List.mem_of_getElem? ‹d1[k]? = some _›); have := ho_.2.1; have := ho_.2.2.1; have := encOp_len (last := last) ho_; have := (batch_len (by omega : batchCheck d1 = 0)).2; omega) | (have ho_ := batchCheck_mem (by omega : batchCheck d1 = 0) (List.mem_of_getElem? ‹d1[k]? = some _›); have := ho_.2.1; have := ho_.2.2.1; have := (batch_len (by omega : batchCheck d1 = 0)).2; simp only [List.length_append, List.length_nil, List.length_cons, List.length_take, List.length_drop] at *; omega)) (by first | omega | (have ho_ := batchCheck_mem (by omega : batchCheck d1 = 0) (List.mem_of_getElem? ‹d1[k]? = some _›); have := ho_.2.1; have := ho_.2.2.1; have := encOp_len (last := last) ho_; have := (batch_len (by omega : batchCheck d1 = 0)).2; omega) | (have ho_ := batchCheck_mem (by omega : batchCheck d1 = 0) (List.mem_of_getElem? ‹d1[k]? = some _›); have := ho_.2.1; have := ho_.2.2.1; have := (batch_len (by omega : batchCheck d1 = 0)).2; simp only [List.length_append, List.length_nil, List.length_cons, List.length_take, List.length_drop] at *; omega))) (fun v29 m29 hv29 => ?_)
        obtain ⟨s29_0, rfl, f29_0⟩ := hv29
        obtain ⟨A29_0, c29_0, eq29_0, l29_0, k29_0⟩ := f29_0.slice
        subst eq29_0
        simp only [maxLen] at k29_0
        have hfa30 := venc_len (x := ((shared last x7.2.1 : Nat) : Int).toNat) (by omega)
        refine VO.as ?_
        refine VO.k14 0 1 4 5 6 7 8 9 10 11 12 16 25 33 ?_
        refine VC.rs ?_
        refine VO.mv ?_
        refine VO.y rfl (.fa rfl tst49 rfl) ?_
        refine VO.y rfl (.ld1 109 rfl tk9 rfl (cellsAt_one rfl rfl)) ?_
        refine VO.y rfl (.lenT rfl Try.underlying9) ?_
        refine VO.mv ?_
        refine VO.y rfl (.sub rfl rfl rfl ⟨by first | omega | (have ho_ := batchCheck_mem (by omega : batchCheck d1 = 0) (List.mem_of_getElem? ‹d1[k]? = some _›); have := ho_.2.1; have := ho_.2.2.1; have := encOp_len (last := last) ho_; have := (batch_len (by omega : batchCheck d1 = 0)).2; omega) | (have ho_ := batchCheck_mem (by omega : batchCheck d1 = 0) (List.mem_of_getElem? ‹d1[k]? = some _›); have := ho_.2.1; have := ho_.2.2.1; have := (batch_len (by omega : batchCheck d1 = 0)).2; simp only [List.length_append, List.length_nil, List.length_cons, List.length_take, List.length_drop] at *; omega), by first | omega | (have ho_ := batchCheck_mem (by omega : batchCheck d1 = 0) (List.mem_of_getElem? ‹d1[k]? = some _›); have := ho_.2.1; have := ho_.2.2.1; have := encOp_len (last := last) ho_; have := (batch_len (by omega : batchCheck d1 = 0)).2; omega) | (have ho_ := batchCheck_mem (by omega : batchCheck d1 = 0) (List.mem_of_getElem? ‹d1[k]? = some _›); have := ho_.2.1; have := ho_.2.2.1; have := (batch_len (by omega : batchCheck d1 = 0)).2; simp only [List.length_append, List.length_nil, List.length_cons, List.length_take, List.length_drop] at *; omega)⟩) ?_
        refine VO.callN 131 rfl fnOk98 rfl (fun W hW => rPut_ok W (OwnL.rd (Ow.ownl f29_0 rfl mnil) (hW.at (i := 129) rfl) (mle_nil _)) (((x7.2.1.length : Nat) : Int) - ((shared last x7.2.1 : Nat) : Int)) (by simp only [inK]; (first | omega | (have ho_ := batchCheck_mem (by omega : batchCheck d1 = 0) (List.mem_of_getElem? ‹d1[k]? = some _›); have := ho_.2.1; have := ho_.2.2.1; have := encOp_len (last := last) ho_; have := (batch_len (by omega : batchCheck d1 = 0)).2; omega) | (have ho_ := batchCheck_mem (by omega : batchCheck d1 = 0) (List.mem_of_getElem? ‹d1[k]? = some _›); have := ho_.2.1; have := ho_.2.2.1; have := (batch_len (by omega : batchCheck d1 = 0)).2; simp only [List.length_append, List.length_nil, List.length_cons, List.length_take, List.length_drop] at *; omega))) (by first | omega | (have ho_ := batchCheck_mem (by omega : batchCheck d1 = 0) (List.mem_of_getElem? ‹d1[k]? = some _›); have := ho_.2.1; have := ho_.2.2.1; have := encOp_len (last := last) ho_; have := (batch_len (by omega : batchCheck d1 = 0)).2; omega) | (have ho_ := batchCheck_mem (by omega : batchCheck d1 = 0) (List.mem_of_getElem? ‹d1[k]? = some _›); have := ho_.2.1; have := ho_.2.2.1; have := (batch_len (by omega : batchCheck d1 = 0)).2; simp only [List.length_append, List.length_nil, List.length_cons, List.length_take, List.length_drop] at *; omega)) (by first | omega | (have ho_ := batchCheck_mem (by omega : batchCheck d1 = 0) (List.mem_of_getElem? ‹d1[k]? = some _›); have := ho_.2.1; have := ho_.2.2.1; have := encOp_len (last := last) ho_; have := (batch_len (by omega : batchCheck d1 = 0)).2; omega) | (have ho_ := batchCheck_mem (by omega : batchCheck d1 = 0) (List.mem_of_getElem? ‹d1[k]? = some _›); have := ho_.2.1; have := ho_.2.2.1; have := (batch_len (by omega : batchCheck d1 = 0)).2; simp only [List.length_append, List.length_nil, List.length_cons, List.length_take, List.length_drop] at *; omega))) (fun v31 m31 hv31 => ?_)
        obtain ⟨s31_0, rfl, f31_0⟩ := hv31
        obtain ⟨A31_0, c31_0, eq31_0, l31_0, k31_0⟩ := f31_0.slice
        subst eq31_0
        simp only [maxLen] at k31_0
        have hfa32 := venc_len (x := (((x7.2.1.length : Nat) : Int) - ((shared last x7.2.1 : Nat) : Int)).toNat) (by omega)
        refine VO.as ?_
        refine VO.k14 0 1 4 5 6 7 8 9 10 11 12 16 25 33 ?_
        refine VC.rs ?_
        refine VO.mv ?_
        refine VO.y rfl (.fa rfl tst49 rfl) ?_
        refine VO.y rfl (.ld1 109 rfl tk9 rfl (cellsAt_one rfl rfl)) ?_
        refine VO.mv ?_
        refine VO.y rfl (.slTLI (shared last x7.2.1) rfl rfl Try.underlying9 rfl (by first | omega | (have ho_ := batchCheck_mem (by omega : batchCheck d1 = 0) (List.mem_of_getElem? ‹d1[k]? = some _›); have := ho_.2.1; have := ho_.2.2.1; have := encOp_len (last := last) ho_; have := (batch_len (by omega : batchCheck d1 = 0)).2; omega) | (have ho_ := batchCheck_mem (by omega : batchCheck d1 = 0) (List.mem_of_getElem? ‹d1[k]? = some _›); have := ho_.2.1; have := ho_.2.2.1; have := (batch_len (by omega : batchCheck d1 = 0)).2; simp only [List.length_append, List.length_nil, List.length_cons, List.length_take, List.length_drop] at *; omega))) ?_
        obtain ⟨mo33, cs33, hM33, hA33, hC33⟩ := (Ow.ownl f31_0 rfl mnil)
        refine VO.app 131 rfl rfl rfl tsl23 tz5 rfl rfl hM33 hA33 (.str _ Try.underlying9 rfl) (byV_nice _) (by simp only [maxLen]; (first | omega | (have ho_ := batchCheck_mem (by omega : batchCheck d1 = 0) (List.mem_of_getElem? ‹d1[k]? = some _›); have := ho_.2.1; have := ho_.2.2.1; have := encOp_len (last := last) ho_; have := (batch_len (by omega : batchCheck d1 = 0)).2; omega) | (have ho_ := batchCheck_mem (by omega : batchCheck d1 = 0) (List.mem_of_getElem? ‹d1[k]? = some _›); have := ho_.2.1; have := ho_.2.2.1; have := (batch_len (by omega : batchCheck d1 = 0)).2; simp only [List.length_append, List.length_nil, List.length_cons, List.length_take, List.length_drop] at *; omega))) (by first | omega | (have ho_ := batchCheck_mem (by omega : batchCheck d1 = 0) (List.mem_of_getElem? ‹d1[k]? = some _›); have := ho_.2.1; have := ho_.2.2.1; have := encOp_len (last := last) ho_; have := (batch_len (by omega : batchCheck d1 = 0)).2; omega) | (have ho_ := batchCheck_mem (by omega : batchCheck d1 = 0) (List.mem_of_getElem? ‹d1[k]? = some _›); have := ho_.2.1; have := ho_.2.2.1; have := (batch_len (by omega : batchCheck d1 = 0)).2; simp only [List.length_append, List.length_nil, List.length_cons, List.length_take, List.length_drop] at *; omega)) (by decide) (fun v33 m33 hN33 => ?_)
        have ho33 : OwnL .byte m33 mnil v33 ((((out ++ [UInt8.ofNat 0]) ++ venc ((shared last x7.2.1 : Nat) : Int).toNat) ++ venc (((x7.2.1.length : Nat) : Int) - ((shared last x7.2.1 : Nat) : Int)).toNat) ++ (x7.2.1.drop (shared last x7.2.1))) := OwnL.more hC33 hN33 (rd_str _ _)
        obtain ⟨A33, c33, rfl, l33, k33⟩ := ho33.slice
        simp only [maxLen] at k33
        refine VO.as ?_
        refine VO.k14 0 1 4 5 6 7 8 9 10 11 12 16 25 33 ?_
        refine VC.seq ?_
        refine VC.rs ?_
        refine VO.y rfl (.fa rfl tst49 rfl) ?_
        refine VO.y rfl (.ld1 109 rfl tk4 rfl (cellsAt_one rfl rfl)) ?_
        refine VO.k15 0 1 4 5 6 7 8 9 10 11 12 16 25 33 59 ?_
        refine VC.condKF rfl hc10 ?_
        refine VC.skip ?_
        refine outN ?_
        refine VC.reg ?_
        refine VO.y rfl (.fa rfl tst49 rfl) ?_
        refine VO.y rfl (.ld1 109 rfl tk9 rfl (cellsAt_one rfl rfl)) ?_
        refine VO.as ?_
        refine VO.k15 0 1 4 5 6 7 8 9 10 11 12 16 25 33 59 ?_
        refine outBN ?_
        refine outN ?_
        refine VC.reg ?_
        refine VO.mv ?_
        refine VO.y rfl (.add (c := ((k + 1 : Nat) : Int)) rfl rfl (by omega) ⟨by first | omega | (have ho_ := batchCheck_mem (by omega : batchCheck d1 = 0) (List.mem_of_getElem? ‹d1[k]? = some _›); have := ho_.2.1; have := ho_.2.2.1; have := encOp_len (last := last) ho_; have := (batch_len (by omega : batchCheck d1 = 0)).2; omega) | (have ho_ := batchCheck_mem (by omega : batchCheck d1 = 0) (List.mem_of_getElem? ‹d1[k]? = some _›); have := ho_.2.1; have := ho_.2.2.1; have := (batch_len (by omega : batchCheck d1 = 0)).2; simp only [List.length_append, List.length_nil, List.length_cons, List.length_take, List.length_drop] at *; omega), by first | omega | (have ho_ := batchCheck_mem (by omega : batchCheck d1 = 0) (List.mem_of_getElem? ‹d1[k]? = some _›); have := ho_.2.1; have := ho_.2.2.1; have := encOp_len (last := last) ho_; have := (batch_len (by omega : batchCheck d1 = 0)).2; omega) | (have ho_ := batchCheck_mem (by omega : batchCheck d1 = 0) (List.mem_of_getElem? ‹d1[k]? = some _›); have := ho_.2.1; have := ho_.2.2.1; have := (batch_len (by omega : batchCheck d1 = 0)).2; simp only [List.length_append, List.length_nil, List.length_cons, List.length_take, List.length_drop] at *; omega)⟩) ?_
        refine VO.as ?_
        refine VO.k15 0 1 4 5 6 7 8 9 10 11 12 16 25 33 59 ?_
        exact outN ⟨⟨k + 1, x7.2.1, (((out ++ [UInt8.ofNat 0]) ++ venc ((shared last x7.2.1 : Nat) : Int).toNat) ++ venc (((x7.2.1.length : Nat) : Int) - ((shared last x7.2.1 : Nat) : Int)).toNat) ++ (x7.2.1.drop (shared last x7.2.1)), A33, c33, m33⟩, ⟨by omega, by exact enc_step2 he ‹d1[k]? = some _› (by first | (rw [enc_put (by assumption)]; simp only [List.append_assoc, List.cons_append, List.nil_append, List.singleton_append, Int.toNat_sub]; rfl) | (rw [enc_del (by assumption)]; simp only [List.append_assoc, List.cons_append, List.nil_append, List.singleton_append, Int.toNat_sub]; rfl)), by exact enc_len2 (last := last) hlo (by omega) ‹d1[k]? = some _› (by first | (rw [enc_put (by assumption)]; simp only [List.append_assoc, List.cons_append, List.nil_append, List.singleton_append, Int.toNat_sub]; rfl) | (rw [enc_del (by assumption)]; simp only [List.append_assoc, List.cons_append, List.nil_append, List.singleton_append, Int.toNat_sub]; rfl)), by (have ho_ := batchCheck_mem (by omega : batchCheck d1 = 0) (List.mem_of_getElem? ‹d1[k]? = some _›); have := ho_.2.1; have := ho_.2.2.1; have := encOp_len (last := last) ho_; have := (batch_len (by omega : batchCheck d1 = 0)).2; omega), ho33⟩, by first | omega | (have ho_ := batchCheck_mem (by omega : batchCheck d1 = 0) (List.mem_of_getElem? ‹d1[k]? = some _›); have := ho_.2.1; have := ho_.2.2.1; have := encOp_len (last := last) ho_; have := (batch_len (by omega : batchCheck d1 = 0)).2; omega) | (have ho_ := batchCheck_mem (by omega : batchCheck d1 = 0) (List.mem_of_getElem? ‹d1[k]? = some _›); have := ho_.2.1; have := ho_.2.2.1; have := (batch_len (by omega : batchCheck d1 = 0)).2; simp only [List.length_append, List.length_nil, List.length_cons, List.length_take, List.length_drop] at *; omega), ⟨⟨rfl, rfl, rfl, rfl, rfl, rfl, rfl, rfl, rfl, trivial⟩, fun _ h => Inv.sub (Inv.num h 131 104 rfl) [104, 0]⟩⟩
    · -- FF
      refine VC.exit ?_
      refine outE ?_
      refine outE ?_
      refine outBB ?_
      refine outN ?_
      refine VC.rs ?_
      refine VO.mv ?_
      refine VO.as ?_
      refine VO.as ?_
      refine VO.k10 0 1 4 5 6 7 8 9 16 25 ?_
      refine VC.ret ?_
      refine ⟨_, _, res_run (rs := [.tmp 4, .tmp 5]) rfl (.tmp rfl (.tmp rfl .nil)), fun W_ hI => out_of (l := [out_m]) hI [104] rfl rfl (mle_refl _) (fun hS_ => ?_)⟩
      dsimp only [packV]
      have he0 : ((bAppend d0 d1).1 : Ty.Den (.sl .byte)) = out := by first | rfl | (first | (rw [bAppend_bad ‹_›] <;> rfl) | (rw [bAppend_good (by omega)]; dsimp only; rw [← he, List.drop_of_length_le (by omega)]; simp [encOps]))
      refine ⟨Value.slice out_A (out.length) (out_c), ?_, ?_⟩
      rotate_left
      · rw [he0]; exact (Ow.up (OwnL.ow h_out rfl) (hS_.1 _ (.head _)))
      all_goals (first | rfl | (first | (rw [bAppend_bad ‹_›] <;> rfl) | (rw [bAppend_good (by omega)] <;> rfl)))
theorem example03_ok (W : World) : CallR Try.prog 23 [] W (mnil) (fun v m' => ∃ (s0 : Value), ∃ (s1 : Value), ∃ (p0 : Mem), ∃ (p1 : Mem), v = .tuple #[s0, s1] ∧ Seps m' [p0, p1] ∧ Ow (.sl TOp) p0 [s0] (exO) ∧ Ow (.sl .byte) p1 [s1] (exB)) := by
  refine CallR.ofA (n := 7) Try.func23 rfl rfl rfl ?_
  refine VC.rs ?_
  refine VO.as ?_
  refine VO.as ?_
  refine VO.k2 0 1 ?_
  refine VC.rs ?_
  refine VO.y rfl (.bst (cs := [Value.bool true, str ([97, 98]), str ([49])]) rfl tst49 tz49 rfl) ?_
  refine VO.y rfl (.bst (cs := [Value.bool true, str ([97, 98, 99]), str ([50])]) rfl tst49 tz49 rfl) ?_
  refine VO.y rfl (.bst (cs := [Value.bool false, str ([97, 98]), str ([])]) rfl tst49 tz49 rfl) ?_
  refine VO.bsl (cs := [Value.bool true, str ([97, 98]), str ([49]), Value.bool true, str ([97, 98, 99]), str ([50]), Value.bool false, str ([97, 98]), str ([])]) 102 rfl rfl tsl22 tz49 rfl rfl (fun g1 => ?_)
  refine VO.bsl (cs := [Value.int .u8 (3), Value.int .u8 (1), Value.int .u8 (0), Value.int .u8 (2), Value.int .u8 (97), Value.int .u8 (98), Value.int .u8 (1), Value.int .u8 (49), Value.int .u8 (1), Value.int .u8 (2), Value.int .u8 (1), Value.int .u8 (99), Value.int .u8 (1), Value.int .u8 (50), Value.int .u8 (0), Value.int .u8 (2), Value.int .u8 (0)]) 104 rfl rfl tsl23 tz5 rfl rfl (fun g3 => ?_)
  refine VO.as ?_
  refine VO.as ?_
  refine VO.k2 0 1 ?_
  refine VC.ret ?_
  have ho5 : OwnL TOp (mone g1 (.cells [Value.bool true, str ([97, 98]), str ([49]), Value.bool true, str ([97, 98, 99]), str ([50]), Value.bool false, str ([97, 98]), str ([])].toArray 49 (0, 0))) mnil (Value.slice (some ⟨g1, 0, none⟩) (3) (3)) [(true, [97, 98], [49]), (true, [97, 98, 99], [50]), (false, [97, 98], [])] := OwnL.lit 3 (All2c.cons (c1 := [Value.bool true, str ([97, 98]), str ([49])]) (mk_Op (m := _) true ([97, 98]) ([49]) bdm bdm) (All2c.cons (c1 := [Value.bool true, str ([97, 98, 99]), str ([50])]) (mk_Op (m := _) true ([97, 98, 99]) ([50]) bdm bdm) (All2c.cons (c1 := [Value.bool false, str ([97, 98]), str ([])]) (mk_Op (m := _) false ([97, 98]) [] bdm bdm) All2c.nil))) rfl rfl
  have ho6 : OwnL .byte (mone g3 (.cells [Value.int .u8 (3), Value.int .u8 (1), Value.int .u8 (0), Value.int .u8 (2), Value.int .u8 (97), Value.int .u8 (98), Value.int .u8 (1), Value.int .u8 (49), Value.int .u8 (1), Value.int .u8 (2), Value.int .u8 (1), Value.int .u8 (99), Value.int .u8 (1), Value.int .u8 (50), Value.int .u8 (0), Value.int .u8 (2), Value.int .u8 (0)].toArray 5 (0, 0))) mnil (Value.slice (some ⟨g3, 0, none⟩) (17) (17)) [UInt8.ofNat 3, UInt8.ofNat 1, UInt8.ofNat 0, UInt8.ofNat 2, UInt8.ofNat 97, UInt8.ofNat 98, UInt8.ofNat 1, UInt8.ofNat 49, UInt8.ofNat 1, UInt8.ofNat 2, UInt8.ofNat 1, UInt8.ofNat 99, UInt8.ofNat 1, UInt8.ofNat 50, UInt8.ofNat 0, UInt8.ofNat 2, UInt8.ofNat 0] := OwnL.lit 17 (All2c.cons (c1 := [Value.int .u8 (3)]) (rd_byteN bd) (All2c.cons (c1 := [Value.int .u8 (1)]) (rd_byteN bd) (All2c.cons (c1 := [Value.int .u8 (0)]) (rd_byteN bd) (All2c.cons (c1 := [Value.int .u8 (2)]) (rd_byteN bd) (All2c.cons (c1 := [Value.int .u8 (97)]) (rd_byteN bd) (All2c.cons (c1 := [Value.int .u8 (98)]) (rd_byteN bd) (All2c.cons (c1 := [Value.int .u8 (1)]) (rd_byteN bd) (All2c.cons (c1 := [Value.int .u8 (49)]) (rd_byteN bd) (All2c.cons (c1 := [Value.int .u8 (1)]) (rd_byteN bd) (All2c.cons (c1 := [Value.int .u8 (2)]) (rd_byteN bd) (All2c.cons (c1 := [Value.int .u8 (1)]) (rd_byteN bd) (All2c.cons (c1 := [Value.int .u8 (99)]) (rd_byteN bd) (All2c.cons (c1 := [Value.int .u8 (1)]) (rd_byteN bd) (All2c.cons (c1 := [Value.int .u8 (50)]) (rd_byteN bd) (All2c.cons (c1 := [Value.int .u8 (0)]) (rd_byteN bd) (All2c.cons (c1 := [Value.int .u8 (2)]) (rd_byteN bd) (All2c.cons (c1 := [Value.int .u8 (0)]) (rd_byteN bd) All2c.nil))))))))))))))))) rfl rfl
  refine ⟨_, _, res_run (rs := [.tmp 0, .tmp 1]) rfl (.tmp rfl (.tmp rfl .nil)), fun W_ hI => out_of (l := [mone g1 (.cells [Value.bool true, str ([97, 98]), str ([49]), Value.bool true, str ([97, 98, 99]), str ([50]), Value.bool false, str ([97, 98]), str ([])].toArray 49 (0, 0)), mone g3 (.cells [Value.int .u8 (3), Value.int .u8 (1), Value.int .u8 (0), Value.int .u8 (2), Value.int .u8 (97), Value.int .u8 (98), Value.int .u8 (1), Value.int .u8 (49), Value.int .u8 (1), Value.int .u8 (2), Value.int .u8 (1), Value.int .u8 (99), Value.int .u8 (1), Value.int .u8 (50), Value.int .u8 (0), Value.int .u8 (2), Value.int .u8 (0)].toArray 5 (0, 0))]) hI [102, 104] rfl rfl (mle_refl _) (fun hS_ => ?_)⟩
  dsimp only [packV]
  have he0 : (exO : Ty.Den (.sl TOp)) = [(true, [97, 98], [49]), (true, [97, 98, 99], [50]), (false, [97, 98], [])] := by first | rfl | (simp [*]; done)
  have he1 : (exB : Ty.Den (.sl .byte)) = [UInt8.ofNat 3, UInt8.ofNat 1, UInt8.ofNat 0, UInt8.ofNat 2, UInt8.ofNat 97, UInt8.ofNat 98, UInt8.ofNat 1, UInt8.ofNat 49, UInt8.ofNat 1, UInt8.ofNat 2, UInt8.ofNat 1, UInt8.ofNat 99, UInt8.ofNat 1, UInt8.ofNat 50, UInt8.ofNat 0, UInt8.ofNat 2, UInt8.ofNat 0] := by first | rfl | (simp [*]; done)
  refine ⟨Value.slice (some ⟨g1, 0, none⟩) (3) (3), Value.slice (some ⟨g3, 0, none⟩) (17) (17), muns [mone g1 (.cells [Value.bool true, str ([97, 98]), str ([49]), Value.bool true, str ([97, 98, 99]), str ([50]), Value.bool false, str ([97, 98]), str ([])].toArray 49 (0, 0))], muns [mone g3 (.cells [Value.int .u8 (3), Value.int .u8 (1), Value.int .u8 (0), Value.int .u8 (2), Value.int .u8 (97), Value.int .u8 (98), Value.int .u8 (1), Value.int .u8 (49), Value.int .u8 (1), Value.int .u8 (2), Value.int .u8 (1), Value.int .u8 (99), Value.int .u8 (1), Value.int .u8 (50), Value.int .u8 (0), Value.int .u8 (2), Value.int .u8 (0)].toArray 5 (0, 0))], ?_, ?_, ?_, ?_⟩
  rotate_left
  · exact Seps.grp (ls := [[mone g1 (.cells [Value.bool true, str ([97, 98]), str ([49]), Value.bool true, str ([97, 98, 99]), str ([50]), Value.bool false, str ([97, 98]), str ([])].toArray 49 (0, 0))], [mone g3 (.cells [Value.int .u8 (3), Value.int .u8 (1), Value.int .u8 (0), Value.int .u8 (2), Value.int .u8 (97), Value.int .u8 (98), Value.int .u8 (1), Value.int .u8 (49), Value.int .u8 (1), Value.int .u8 (2), Value.int .u8 (1), Value.int .u8 (99), Value.int .u8 (1), Value.int .u8 (50), Value.int .u8 (0), Value.int .u8 (2), Value.int .u8 (0)].toArray 5 (0, 0))]]) hS_
  · rw [he0]; exact (Ow.up (OwnL.ow ho5 rfl) ((Seps.self hS_ (List.Sublist.cons_cons _ (List.Sublist.cons _ List.Sublist.slnil))).1 _ (.head _)))
  · rw [he1]; exact (Ow.up (OwnL.ow ho6 rfl) ((Seps.self hS_ (List.Sublist.cons _ (List.Sublist.cons_cons _ List.Sublist.slnil))).1 _ (.head _)))
  all_goals (first | rfl | (simp [*]; done))
end
section
set_option linter.unusedVariables false
set_option linter.unusedSimpArgs false
set_option maxRecDepth 4000
theorem fnOk23 : fnOk Try.prog 23 = true := by kernel_rfl
theorem fnOk24 : fnOk Try.prog 24 = true := by kernel_rfl
theorem fnOk25 : fnOk Try.prog 25 = true := by kernel_rfl
theorem fnOk30 : fnOk Try.prog 30 = true := by kernel_rfl
theorem lives03_ok (W : World) : CallR Try.prog 25 [] W (mnil) (fun v m' => v = .bool true) := by
  refine CallR.ofA (n := 45) Try.func25 rfl rfl rfl ?_
  refine VC.rs ?_
  refine VO.as ?_
  refine VO.k1 0 ?_
  refine VC.rs ?_
  refine VO.callN 101 rfl fnOk23 rfl (fun W hW => example03_ok W ) (fun v1 m1 hv1 => ?_)
  obtain ⟨s1_0, s1_1, p1_0, p1_1, rfl, hS1, f1_0, f1_1⟩ := hv1
  refine VO.inv _ (fun _ h => h.parts (i := 101) rfl hS1 [102, 103]) ?_
  obtain ⟨A1_0, c1_0, eq1_0, l1_0, k1_0⟩ := f1_0.slice
  subst eq1_0
  simp only [maxLen] at k1_0
  obtain ⟨A1_1, c1_1, eq1_1, l1_1, k1_1⟩ := f1_1.slice
  subst eq1_1
  simp only [maxLen] at k1_1
  refine VO.mv ?_
  refine VO.y rfl (.ext rfl rfl) ?_
  refine VO.y rfl (.ext rfl rfl) ?_
  refine VO.as ?_
  refine VO.as ?_
  refine VO.k3 0 1 2 ?_
  refine VC.rs ?_
  refine VO.mv ?_
  refine VO.callN 104 rfl fnOk30 rfl (fun W hW => bAppend_ok W (Rd.nil _ _ none 0 (Nat.zero_le _)) (OwnL.rd (Ow.ownl f1_0 rfl mnil) (hW.at (i := 102) rfl) (mle_nil _)) (by first | omega | (simp only [List.length_append, List.length_nil, List.length_cons, List.length_take, List.length_drop] at *; omega) | (have : exC.length = 6 := rfl; omega) | decide)) (fun v4 m4 hv4 => ?_)
  obtain ⟨s4_0, rfl, f4_0⟩ := hv4
  obtain ⟨A4_0, c4_0, eq4_0, l4_0, k4_0⟩ := f4_0.slice
  subst eq4_0
  simp only [maxLen] at k4_0
  have hfa5 := bAppend_len [] exO
  refine VO.mv ?_
  refine VO.y rfl (.ext rfl rfl) ?_
  refine VO.y rfl (.ext rfl rfl) ?_
  refine VO.as ?_
  refine VO.as ?_
  refine VO.k5 0 1 2 3 4 ?_
  refine VC.rs ?_
  refine VO.mv ?_
  refine VO.callN 106 rfl fnOk24 rfl (fun W hW => bRead_ok W (OwnL.rd (Ow.ownl f1_1 rfl mnil) (hW.at (i := 103) rfl) (mle_nil _))) (fun v6 m6 hv6 => ?_)
  obtain ⟨s6_0, rfl, f6_0⟩ := hv6
  obtain ⟨A6_0, c6_0, eq6_0, l6_0, k6_0⟩ := f6_0.slice
  subst eq6_0
  simp only [maxLen] at k6_0
  have hfa7 := bRead_fits exB
  refine VO.mv ?_
  refine VO.y rfl (.ext rfl rfl) ?_
  refine VO.y rfl (.ext rfl rfl) ?_
  refine VO.y rfl (.ext rfl rfl) ?_
  refine VO.as ?_
  refine VO.as ?_
  refine VO.as ?_
  refine VO.k8 0 1 2 3 4 5 6 7 ?_
  refine VC.rs ?_
  refine VO.mv ?_
  refine VO.y rfl (.eql rfl rfl) ?_
  refine VO.mv ?_
  refine VO.dec (t := 25) rfl (fun hc8 => ?_) (fun hc8 => ?_)
  · -- T
    refine VO.gy rfl ⟨_, rfl, rfl⟩ (.mv rfl) ?_
    refine VO.gy rfl ⟨_, rfl, rfl⟩ (.eql rfl rfl) ?_
    refine VO.y rfl (.pT rfl rfl) ?_
    refine VO.mv ?_
    refine VO.dec (t := 29) rfl (fun hc9 => ?_) (fun hc9 => ?_)
    · -- TT
      refine VO.gy rfl ⟨_, rfl, rfl⟩ (.mv rfl) ?_
      refine VO.gy rfl ⟨_, rfl, rfl⟩ (.mv rfl) ?_
      refine VO.gy rfl ⟨_, rfl, rfl⟩ (.lenS rfl tsl23) ?_
      refine VO.gy rfl ⟨_, rfl, rfl⟩ (.eql rfl rfl) ?_
      refine VO.y rfl (.pT rfl rfl) ?_
      refine VO.mv ?_
      refine VO.dec (t := 35) rfl (fun hc10 => ?_) (fun hc10 => ?_)
      · -- TTT
        refine VO.gy rfl ⟨_, rfl, rfl⟩ (.mv rfl) ?_
        refine VO.gy rfl ⟨_, rfl, rfl⟩ (.mv rfl) ?_
        refine VO.gcallN 111 rfl ⟨_, rfl, rfl⟩ fnOk33 rfl (fun W hW => SameBytes_ok W (OwnL.rd (Ow.ownl f4_0 rfl mnil) (hW.at (i := 104) rfl) (mle_nil _)) (OwnL.rd (Ow.ownl f1_1 rfl mnil) (hW.at (i := 103) rfl) (mle_nil _))) (fun v11 m11 hv11 => ?_)
        subst hv11
        refine VO.y rfl (.pT rfl rfl) ?_
        refine VO.mv ?_
        refine VO.dec (t := 40) rfl (fun hc12 => ?_) (fun hc12 => ?_)
        · -- TTTT
          refine VO.gy rfl ⟨_, rfl, rfl⟩ (.mv rfl) ?_
          refine VO.gy rfl ⟨_, rfl, rfl⟩ (.mv rfl) ?_
          refine VO.gcallN 113 rfl ⟨_, rfl, rfl⟩ fnOk38 rfl (fun W hW => SameOps_ok W (OwnL.rd (Ow.ownl f1_0 rfl mnil) (hW.at (i := 102) rfl) (mle_nil _)) (OwnL.rd (Ow.ownl f6_0 rfl mnil) (hW.at (i := 106) rfl) (mle_nil _))) (fun v13 m13 hv13 => ?_)
          subst hv13
          refine VO.y rfl (.pT rfl rfl) ?_
          refine VO.as ?_
          refine VO.k8 0 1 2 3 4 5 6 7 ?_
          refine VC.ret ?_
          refine ⟨_, _, res_run (rs := [.tmp 0]) rfl (.tmp rfl .nil), fun W_ hI => out_of (l := []) hI [] rfl rfl (mle_refl _) (fun hS_ => ?_)⟩
          dsimp only [packV]
          all_goals (first | rfl | (exact congrArg Value.bool (decide_eq_true (by first | rfl | decide | (simp only [exApp, exRead]; done) | (simp only [exApp, exRead]; first | rfl | decide)))))
        · -- TTTF
          exact absurd (by first | rfl | decide | (simp only [exApp, exRead]; done) | (simp only [exApp, exRead]; first | rfl | decide)) hc12
      · -- TTF
        exact absurd (by first | rfl | decide | (simp only [exApp, exRead]; done) | (simp only [exApp, exRead]; first | rfl | decide)) hc10
    · -- TF
      exact absurd (by first | rfl | decide | (simp only [exApp, exRead]; done) | (simp only [exApp, exRead]; first | rfl | decide)) hc9
  · -- F
    exact absurd (by first | rfl | decide | (simp only [exApp, exRead]; done) | (simp only [exApp, exRead]; first | rfl | decide)) hc8
end
section
set_option linter.unusedVariables false
theorem cellsAt.uniq {m : Mem} {g off k : Nat} {a b : List Value} (h : cellsAt m g off k a) (h' : cellsAt m g off k b) : a = b := by
  obtain ⟨c, E, fz, h1, h2, h3⟩ := h
  obtain ⟨c', E', fz', h1', h2', h3'⟩ := h'
  rw [h1] at h1'
  cases h1'
  rw [h3, h3']
theorem OwAll.hole {α : Type} {R : Mem → List Value → α → Prop} {k : Nat} (hk : ∀ m c x, R m c x → c.length = k) : ∀ {xs : List α} {m : Mem} {cs : List Value} {i : Nat} {a : α}, OwAll R m cs xs → xs[i]? = some a →
    ∃ mr me, mdj mr me ∧ mle mr m ∧ mle me m ∧ R me ((cs.drop (i * k)).take k) a ∧ ∀ me' x', mdj mr me' → R me' ((cs.drop (i * k)).take k) x' → OwAll R (mun mr me') cs (xs.set i x')
  | y :: r, m, _, 0, a, ⟨c1, c2, m1, m2, h1, h2, h3, h4, h5, h6⟩, hi => by
    simp at hi; subst hi
    have e : ((c1 ++ c2).drop (0 * k)).take k = c1 := by rw [Nat.zero_mul, List.drop_zero]; exact List.take_left' (hk _ _ _ h5)
    rw [h1, e]
    exact ⟨m2, m1, h2.symm, h4, h3, h5, fun me' x' hd hx => ⟨c1, c2, me', m2, rfl, hd.symm, mle_un_right hd, mle_un_left _ _, hx, h6⟩⟩
  | y :: r, m, _, i + 1, a, ⟨c1, c2, m1, m2, h1, h2, h3, h4, h5, h6⟩, hi => by
    have hi' : r[i]? = some a := by simpa using hi
    obtain ⟨mr, me, d, l1, l2, hR, hb⟩ := OwAll.hole hk h6 hi'
    have d1 : mdj m1 mr := h2.mono (mle_refl _) l1
    have e : ((c1 ++ c2).drop ((i + 1) * k)).take k = (c2.drop (i * k)).take k := by
      rw [show (i + 1) * k = c1.length + i * k by rw [hk _ _ _ h5, Nat.add_mul]; omega, ← List.drop_drop, List.drop_left]
    rw [h1, e]
    refine ⟨mun m1 mr, me, mdj_un (h2.mono (mle_refl _) l2) d, mun_le h3 (l1.trans h4), l2.trans h4, hR, fun me' x' hd hx => ?_⟩
    have d2 := hd.mono (mle_un_left _ _) (mle_refl _)
    have d3 := hd.mono (mle_un_right d1) (mle_refl _)
    exact ⟨c1, c2, m1, mun mr me', rfl, (mdj_un d1.symm d2.symm).symm, (mle_un_left _ _).trans (mle_un_left _ _), mun_le ((mle_un_right d1).trans (mle_un_left _ _)) (mle_un_right hd), h5, hb me' x' d3 hx⟩
/-- An element of a list of one's own is taken out; what is put back goes into its place. -/
theorem Ow.hole {e : Ty} {m : Mem} {g off l c i : Nat} {xs : List e.Den} {a : e.Den} {yc : List Value} (h : Ow (.sl e) m [.slice (some ⟨g, off, none⟩) l c] xs) (hi : xs[i]? = some a) (hc : cellsAt m g (off + i * e.sz) e.sz yc) :
    ∃ mr me, Seps m [mr, me] ∧ Ow e me yc a ∧ ∀ me' x', mdj mr me' → Ow e me' yc x' → Ow (.sl e) (mun mr me') [.slice (some ⟨g, off, none⟩) l c] (xs.set i x') := by
  obtain ⟨m0, m1, rc, hS, hA, hL⟩ := h.opn
  have hlt : i < xs.length := (List.getElem?_eq_some_iff.1 hi).1
  have d01 : mdj m0 m1 := by have := hS.2; simpa using this
  have l0 := hS.1 m0 (.head _)
  have l1 := hS.1 m1 (.tail _ (.head _))
  obtain ⟨g', off', c', hv, hcell⟩ := hA.cells (by omega)
  simp only [Value.slice.injEq, Option.some.injEq, Addr.mk.injEq, and_true] at hv
  obtain ⟨⟨rfl, rfl⟩, hl, rfl⟩ := hv
  have hm2 : i * e.sz + e.sz ≤ xs.length * e.sz := by
    have := Nat.mul_le_mul_right e.sz (Nat.succ_le_of_lt hlt)
    rwa [Nat.succ_mul] at this
  have hyc := ((hcell.sub hm2).mono l0).uniq hc
  obtain ⟨mr, me, d, k1, k2, hR, hb⟩ := OwAll.hole (fun _ _ _ h => h.len) hL hi
  rw [hyc] at hR hb
  have d0r : mdj m0 mr := d01.mono (mle_refl _) k1
  have d0e : mdj m0 me := d01.mono (mle_refl _) k2
  refine ⟨mun m0 mr, me, .two (mdj_un d0e d) (mun_le l0 (k1.trans l1)) (k2.trans l1), hR, fun me' x' hd hx => ?_⟩
  have d2 := hd.mono (mle_un_left _ _) (mle_refl _)
  have d3 := hd.mono (mle_un_right d0r) (mle_refl _)
  refine Ow.cls (m0 := m0) (m1 := mun mr me') (rc := rc) (.two (mdj_un d0r.symm d2.symm).symm ((mle_un_left _ _).trans (mle_un_left _ _)) (mun_le ((mle_un_right d0r).trans (mle_un_left _ _)) (mle_un_right hd))) ?_ (hb me' x' d3 hx)
  rw [List.length_set]; exact hA
theorem Seps.back {e : Ty} {mr me : Mem} {v : Value} {xs : List e.Den} (hS : Seps (muns [mr, me]) [mr, me]) (h : mdj mr me → Ow (.sl e) (mun mr me) [v] xs) : Ow (.sl e) (muns [mr, me]) [v] xs :=
  (h (by simpa using hS.2)).up (mun_le (hS.1 _ (.head _)) (hS.1 _ (.tail _ (.head _))))
section
variable {P : Program} {n : Nat} {w0 : World} {σ : Env} {Ω : Ctx} {ops : Array Oper} {K : Env → Ctx → Prop} {R : Exit → Env → Ctx → Prop}
variable {ty : TypeId} {pos : String} {af : Array Edge} {d : Option Tmp} {gd : Option (Nat × Bool)} {r : List Oper}
theorem appIn_wp {s x : Operand} {t xt e : TypeId} {sz b len cap k : Nat} {A : Option Addr} {xv : Value} {cs xs : List Value} {i : Nat} {m m0 : Mem} {a : Act} {W : World} (he : EnvOk n σ a) (hi : Inv w0 Ω W) (hsv : ev σ s = some (.slice A len cap)) (hxv : ev σ x = some xv) (ht : tsl P t = some (e, sz, b))
    (hm : cget Ω i = some m) (hm0 : mle m0 m) (hown : OwnA sz m0 (.slice A len cap) len cs) (hs : SrcW P W sz xt xv k xs) (h1 : ∀ u ∈ xs, u.oneCell' = true) (hle : len + k ≤ cap)
    {K' : Act → World → Prop} {Q : Exit → Act → World → Prop} (hK : ∀ m' W', OwnA sz m' (.slice A (len + k) cap) (len + k) (cs ++ xs) → Inv w0 (cset Ω i m') W' → K' (a.put d (.slice A (len + k) cap)) W') :
    (⟨d, .call { callee := .builtin .append, args := [s, x].toArray, argTypes := [t, xt].toArray }, ty, pos, af, gd⟩ : Oper).wp P a W K' Q := by
  have hex : ∀ (res : Value) (W' : World), (Builtin.append_ #[t, xt] ty #[.slice A len cap, xv]).run P W = .ok res W' → (execOp a.eval ⟨d, .call { callee := .builtin .append, args := [s, x].toArray, argTypes := [t, xt].toArray }, ty, pos, af, gd⟩).run P W = .ok (.value res) W' := by
    intro res W' h
    simp [execOp, resolve, invoke, builtin, he.eval hsv, he.eval hxv, h]
  cases hown with
  | nil A =>
    have hk : k = 0 := by omega
    subst hk
    have hx : xs = [] := List.eq_nil_of_length_eq_zero (by simpa using hs.len)
    subst hx
    unfold Oper.wp
    rw [hex (.slice A 0 0) W (by rw [append_eq ht hs ty (by omega)]; cases A <;> rfl)]
    exact hK mnil _ (.nil A) (hi.set hm rfl rfl rfl (Nat.le_refl _) (mout_le _ _) (mle_nil _) fun g => .inl rfl)
  | row g off len cap E c h1' h2' h3' =>
    have hg := hi.at hm g _ (hm0 g _ (mone_self _ _))
    have hmul := Nat.mul_le_mul_right sz hle
    have hl2 := hs.len
    obtain ⟨W', hrun, ho, htp, hu, hsz, hfar, hgg⟩ := setCells_heap (P := P) xs W g (off + len * sz) c.toArray E (0, 0) hg (by simp [hl2]; rw [Nat.add_mul] at hmul; omega) (Nat.le_refl _) h1 0 (off + len * sz) rfl
    unfold Oper.wp
    rw [hex (.slice (some ⟨g, off, none⟩) (len + k) cap) W' (by rw [append_eq ht hs ty hle]; simp only [add_off, hrun]; rfl)]
    have hsl : splice c (off + len * sz) xs = c.take (off + len * sz) ++ (xs ++ c.drop (off + len * sz + xs.length)) := rfl
    have hlc : (splice c (off + len * sz) xs).length = c.length := by rw [hsl]; simp [hl2]; rw [Nat.add_mul] at hmul; omega
    refine hK (mone g (.cells (splice c (off + len * sz) xs).toArray E (0, 0))) _ ?_ (hi.set hm ho htp hu (Nat.le_of_eq hsz.symm) ?_ (mone_le hgg) fun g' => ?_)
    · have := OwnA.row (sz := sz) g off (len + k) cap E (splice c (off + len * sz) xs) (by rw [hlc]; exact h1') hle h3'
      have e1 : List.take ((len + k) * sz) (List.drop off (splice c (off + len * sz) xs)) = List.take (len * sz) (List.drop off c) ++ xs := by
        rw [hsl, List.drop_append_of_le_length (by simp; rw [Nat.add_mul] at hmul; omega), ← List.append_assoc]
        have e2 : List.drop off (List.take (off + len * sz) c) = List.take (len * sz) (List.drop off c) := by
          rw [List.drop_take]; congr 1; omega
        rw [e2]
        have e3 : (List.take (len * sz) (List.drop off c) ++ xs).length = (len + k) * sz := by
          rw [Nat.add_mul] at hmul ⊢
          simp [hl2]; omega
        rw [← e3]
        exact List.take_left
      rw [e1] at this
      exact this
    · intro q o h
      unfold mout at h
      split at h
      · cases h
      · rename_i hn
        have hne : q ≠ g := by rintro rfl; rw [hm0 _ _ (mone_self _ _)] at hn; cases hn
        unfold wm at h ⊢
        rw [hfar q hne]; exact h
    · by_cases hgg' : g' = g
      · subst hgg'; right; left; rw [hm0 _ _ (mone_self _ _)]; simp
      · exact .inl (mone_ne _ hgg')
/-- One thing, owned in chunk j, is appended within the room: the list stays where it is. -/
theorem VO.appI {e : Ty} {s x : Operand} {t xt et xe : TypeId} {b dd g c cap l : Nat} {A : Option Addr} {xs : List e.Den} {y : e.Den} {yc : List Value} (i j k : Nat) {m mj mk : Mem} (hd : Nat.blt dd n = true) (hsv : ev σ s = some (.slice A l cap)) (hxv : ev σ x = some (.slice (some ⟨g, 0, none⟩) 1 c)) (ht : tsl P t = some (et, e.sz, b))
    (hm : cget Ω i = some m) (hj : cget (cdel Ω i) j = some mj) (hk : cget Ω k = some mk) (hown : Ow (.sl e) m [.slice A l cap] xs) (hy : Ow e mj yc y) (hxt : P.underlying xt = some (.slice xe)) (hc : cellsAt mk g 0 e.sz yc) (hle : l + 1 ≤ cap)
    (h : ∀ m', Ow (.sl e) m' [.slice A (l + 1) cap] (xs ++ [y]) → VO P n w0 ops r ((dd, .slice A (l + 1) cap) :: σ) ((i, m') :: cdel (cdel Ω i) j) K) :
    VO P n w0 ops (⟨some dd, .call { callee := .builtin .append, args := [s, x].toArray, argTypes := [t, xt].toArray }, ty, pos, af, none⟩ :: r) σ Ω K :=
  fun Q hQ a W he hi => wpList_plain rfl fun K' hK => by
    obtain rfl := slice_len hown
    obtain ⟨m0, m1, rc, hS, hA, hL⟩ := hown.opn
    obtain ⟨q1, q2, q3, q4, _⟩ := hi.gets (ids := [i, j]) (l := [m, mj]) (by simp [cgets, hm, hj])
    have dmj : mdj m mj := by simpa using q1
    have d01 : mdj m0 m1 := by have := hS.2; simpa using this
    have l0 := hS.1 m0 (.head _)
    have l1 := hS.1 m1 (.tail _ (.head _))
    have d1j : mdj m1 mj := dmj.mono l1 (mle_refl _)
    have hnew : mdj m0 (mun m1 mj) := (mdj_un d01.symm (dmj.mono l0 (mle_refl _)).symm).symm
    have hΩ2 : Inv w0 ((i, m0) :: (j, mun m1 mj) :: cdel (cdel Ω i) j) W := by
      have hdel : Inv w0 (cdel (cdel Ω i) j) W := q4
      have f1 : ∀ p ∈ cdel (cdel Ω i) j, mdj m p.2 := fun p hp => q3 m (.head _) p hp
      have f2 : ∀ p ∈ cdel (cdel Ω i) j, mdj mj p.2 := fun p hp => q3 mj (.tail _ (.head _)) p hp
      refine ⟨hi.os, hi.tape, hi.output, hi.size, fun p hp => ?_, List.pairwise_cons.2 ⟨fun p hp => ?_, List.pairwise_cons.2 ⟨fun p hp => ?_, hdel.dj⟩⟩⟩
      · rcases List.mem_cons.1 hp with rfl | hp
        · exact l0.trans (hi.at hm)
        · rcases List.mem_cons.1 hp with rfl | hp
          · exact mun_le (l1.trans (hi.at hm)) (q2 mj (.tail _ (.head _)))
          · exact hdel.le p hp
      · rcases List.mem_cons.1 hp with rfl | hp
        · exact hnew
        · exact (f1 p hp).mono l0 (mle_refl _)
      · exact mdj_un ((f1 p hp).mono l1 (mle_refl _)) (f2 p hp)
    have hsrc : SrcW P W e.sz xt (.slice (some ⟨g, 0, none⟩) 1 c) 1 yc := by
      refine ⟨⟨_, hxt, by simp⟩, by rw [hy.len]; omega, fun W' hW => ?_, fun W' => by simp [Builtin.lenOf]⟩
      have hc2 : cellsAt (wm W') g 0 (1 * e.sz) yc := by
        rw [Nat.one_mul]
        refine hc.mono (fun q o ho => ?_)
        have := hi.at hk q o ho
        unfold wm at this ⊢
        rw [hW]; exact this
      exact firstCells_row hc2
    refine appIn_wp (i := i) (m := m0) (m0 := m0) he hΩ2 hsv hxv ht (by simp [cget]) (mle_refl _) hA hsrc hy.nice hle fun m' W' hA' hi' => ?_
    have hc' : cset ((i, m0) :: (j, mun m1 mj) :: cdel (cdel Ω i) j) i m' = (i, m') :: (j, mun m1 mj) :: cdel (cdel Ω i) j := by simp [cset]
    rw [hc'] at hi'
    have hdj : mdj m' (mun m1 mj) := (List.pairwise_cons.1 hi'.dj).1 _ (.head _)
    have hall : OwAll (Ow e) (mun m1 mj) (rc ++ yc) (xs ++ [y]) := OwAll.app d1j (mle_un_left _ _) (mle_un_right d1j) hL (.one hy (mle_refl _))
    have el : (xs ++ [y]).length = xs.length + 1 := by simp
    have hA' : OwnA e.sz m' (.slice A (xs.length + 1) cap) (xs ++ [y]).length (rc ++ yc) := by rw [el]; exact hA'
    have how : Ow (.sl e) (mun m' (mun m1 mj)) [.slice A (xs.length + 1) cap] (xs ++ [y]) := ⟨_, m', mun m1 mj, rc ++ yc, rfl, hdj, mle_un_left _ _, mle_un_right hdj, hA', hall⟩
    refine hK _ _ (h _ how Q hQ _ _ (he.put hd _) ?_)
    refine ⟨hi'.os, hi'.tape, hi'.output, hi'.size, fun p hp => ?_, List.pairwise_cons.2 ⟨fun p hp => ?_, (List.pairwise_cons.1 (List.pairwise_cons.1 hi'.dj).2).2⟩⟩
    · rcases List.mem_cons.1 hp with rfl | hp
      · exact mun_le (hi'.le (i, m') (.head _)) (hi'.le (j, mun m1 mj) (.tail _ (.head _)))
      · exact hi'.le p (.tail _ (.tail _ hp))
    · exact mdj_un ((List.pairwise_cons.1 hi'.dj).1 p (.tail _ hp)) ((List.pairwise_cons.1 (List.pairwise_cons.1 hi'.dj).2).1 p hp)
theorem cplB_wrap (a : Nat) (h : a ≤ 255) : IntKind.u8.wrap ((BitVec.ofInt 8 (-1) ^^^ BitVec.ofInt 8 (a : Int)).toNat : Int) = ((255 - a : Nat) : Int) := by
  have e1 : BitVec.ofInt 8 (-1) ^^^ BitVec.ofInt 8 (a : Int) = ~~~ (BitVec.ofInt 8 (a : Int)) := by
    rw [show BitVec.ofInt 8 (-1) = BitVec.allOnes 8 from rfl, BitVec.allOnes_xor]
  rw [e1, BitVec.toNat_not, BitVec.toNat_ofInt]
  simp only [IntKind.wrap, IntKind.signed, IntKind.bits]
  simp
  omega
theorem Yld.cplB {x : Operand} {t : TypeId} {a : Nat} (hx : ev σ x = some (.int .u8 (a : Int))) (h : a ≤ 255) : Yld P n w0 σ Ω ⟨d, .unOp .xor t x, ty, pos, af, gd⟩ (.int .u8 ((255 - a : Nat) : Int)) := fun A W he _ => by
  have := cplB_wrap a h
  have h2 : (Op.unary .xor (.int .u8 (a : Int))).run P W = .ok (.int .u8 ((255 - a : Nat) : Int)) W := by
    show Result.ok (Value.int .u8 (IntKind.u8.wrap ((BitVec.ofInt 8 (-1) ^^^ BitVec.ofInt 8 (a : Int)).toNat : Int))) W = _
    rw [this]
  simp [execOp, he.eval hx, h2]
end
def cplB (b : UInt8) : UInt8 := UInt8.ofNat (255 - b.toNat)
end
section
set_option linter.unusedVariables false
theorem over_set {α : Type} {f : α → α} {d l : List α} {k : Nat} {x : α} (hl : l = (d.take k).map f ++ d.drop k) (hx : l[k]? = some x) : d[k]? = some x ∧ l.set k (f x) = (d.take (k + 1)).map f ++ d.drop (k + 1) := by
  subst hl
  have hk : k < d.length := by
    have := (List.getElem?_eq_some_iff.1 hx).1
    simp at this; omega
  have hlen : ((d.take k).map f).length = k := by simp; omega
  rw [List.getElem?_append_right (by omega), hlen, Nat.sub_self, List.getElem?_drop, Nat.add_zero] at hx
  refine ⟨hx, ?_⟩
  obtain ⟨_, hx'⟩ := List.getElem?_eq_some_iff.1 hx
  rw [List.set_append_right _ _ (by omega), hlen, Nat.sub_self, List.drop_eq_getElem_cons hk, List.set_cons_zero, List.take_succ_eq_append_getElem hk, List.map_append, List.append_assoc, hx']
  rfl
theorem over_next {d l : Bytes} {k : Nat} {x : UInt8} (hl : l = (d.take k).map cplB ++ d.drop k) (hx : l[k]? = some x) : l.set k (UInt8.ofNat (255 - x.toNat)) = (d.take (k + 1)).map cplB ++ d.drop (k + 1) := (over_set hl hx).2
theorem over_more {α : Type} {d l : List α} {x : α} (h : ∃ j, l = d ++ List.replicate j x) : ∃ j, l ++ [x] = d ++ List.replicate j x := by
  obtain ⟨j, rfl⟩ := h
  exact ⟨j + 1, by rw [List.replicate_succ', List.append_assoc]⟩
theorem fill_next {α : Type} {was d : List α} {i : Nat} {x y : α} (h : was = d.take i ++ List.replicate (d.length - i) y) (hx : d[i]? = some x) : was.set i x = d.take (i + 1) ++ List.replicate (d.length - (i + 1)) y := by
  subst h
  obtain ⟨hi, hx'⟩ := List.getElem?_eq_some_iff.1 hx
  rw [List.set_append_right _ _ (by simp; omega), List.length_take, Nat.min_eq_left (by omega), Nat.sub_self, show d.length - i = (d.length - (i + 1)) + 1 by omega, List.replicate_succ, List.set_cons_zero, List.take_succ_eq_append_getElem hi, hx', List.append_assoc]
  rfl
theorem fill_all {α : Type} {was d : List α} {i : Nat} {y : α} (h : was = d.take i ++ List.replicate (d.length - i) y) (hi : d.length ≤ i) : was = d := by
  rw [h, List.take_of_length_le hi, show d.length - i = 0 by omega]; simp
theorem over_all {α : Type} {f : α → α} {d l : List α} {k : Nat} (hl : l = (d.take k).map f ++ d.drop k) (hk : d.length ≤ k) : l = d.map f := by
  rw [hl, List.take_of_length_le hk, List.drop_of_length_le hk, List.append_nil]
section
variable {α : Type} {f : α → α} {d l was : List (List α)} {i k : Nat} {x y : List α} {a b : α}
theorem apart_at (hl : l = d.map (List.map f)) (hw : was = d) (hx : l[i]? = some x) (hy : was[i]? = some y) : x = y.map f := by
  subst hl; subst hw
  rw [List.getElem?_map, hy] at hx
  exact (Option.some.inj hx).symm
theorem apart_len (hl : l = d.map (List.map f)) (hw : was = d) (hx : l[i]? = some x) (hy : was[i]? = some y) : x.length = y.length := by rw [apart_at hl hw hx hy, List.length_map]
theorem apart_eq (hl : l = d.map (List.map f)) (hw : was = d) (hx : l[i]? = some x) (hy : was[i]? = some y) (hxk : x[k]? = some a) (hyk : y[k]? = some b) : a = f b := by
  rw [apart_at hl hw hx hy, List.getElem?_map, hyk] at hxk
  exact (Option.some.inj hxk).symm
end
theorem apart_same {α : Type} {f : α → α} {d l was : List α} {k : Nat} {x y : α} (hl : l = (d.take k).map f ++ d.drop k) (hw : was = d) (hx : l[k]? = some x) (hy : was[k]? = some y) : x = y := by
  subst hw
  have := (over_set hl hx).1
  rw [hy] at this
  exact (Option.some.inj this).symm
theorem cplB_toNat (b : UInt8) : (cplB b).toNat = 255 - b.toNat := by
  have := b.toNat_lt
  unfold cplB; simp; omega
theorem three_lists {b : Bytes} {l : List DOp} (h : b.length ≤ 140737488351232) : ∀ x ∈ [(bAppend b l).1, (bAppend b l).1, b ++ spareB], x.length ≤ 140737488355000 := by
  have h1 := bAppend_len b l
  intro x hx
  simp only [List.mem_cons, List.not_mem_nil, or_false] at hx
  rcases hx with rfl | rfl | rfl
  · omega
  · omega
  · simp [spareB]; omega
end
section
set_option linter.unusedVariables false
set_option linter.unusedSimpArgs false
set_option maxRecDepth 4000
theorem fnOk100 : fnOk Try.prog 100 = true := by kernel_rfl
theorem tsl39 : tsl Try.prog 39 = some (23, 1, 24) := by kernel_rfl
theorem tz23 : tz Try.prog 23 = some [.slice none 0 0] := by kernel_rfl
theorem OverBytes_ok (W : World) {m0 : Mem} (hm : mle (m0) (wm W)) {v0 : Value} {d0 : List UInt8} (h0 : Ow (.sl .byte) m0 [v0] d0) : CallR Try.prog 100 [v0] W (m0) (fun v m' => v = .tuple #[] ∧ Ow (.sl .byte) m' [v0] (d0.map cplB)) := by
  obtain ⟨A0, c0, e0_, l0, k0⟩ := h0.slice
  subst e0_
  simp only [maxLen] at k0
  refine CallR.ofB (n := 27) hm Try.func100 rfl rfl rfl ?_
  refine VC.rs ?_
  refine VO.mv ?_
  refine VO.y rfl (.capS rfl tsl23) ?_
  refine VO.as ?_
  refine VO.k2 0 2 ?_
  refine VC.seq ?_
  refine VC.rs ?_
  refine VO.as ?_
  refine VO.k3 0 2 3 ?_
  refine VC.block ?_
  refine VC.loop (G := Nat × (List UInt8) × Mem) (fun g => [(0, Value.slice A0 (d0.length) (c0)), (3, Value.int .i64 ((((g.1) : Nat) : Int))), (0, Value.slice A0 (d0.length) (c0)), (2, Value.int .i64 (((c0 : Nat) : Int)))]) (fun g => [(0, mout (wm W) (m0)), (1, (g.2.2))]) (fun g => ((g.1) ≤ d0.length) ∧ ((g.2.1) = (d0.take (g.1)).map cplB ++ d0.drop (g.1)) ∧ (OwnL .byte (g.2.2) mnil (.slice A0 (d0.length) (c0)) (g.2.1))) (fun g => d0.length - (g.1)) (0, d0, m0) (⟨by omega, by simp, (Ow.ownl h0 rfl mnil)⟩) ⟨⟨rfl, rfl, rfl, rfl, trivial⟩, fun _ h => h.sub [0, 1]⟩ ?_
  rintro ⟨k, l, l_m⟩ ⟨hk, hl, h_l⟩
  replace hk : k ≤ d0.length := hk
  replace hl : l = (d0.take k).map cplB ++ d0.drop k := hl
  replace h_l : OwnL .byte l_m mnil (.slice A0 (d0.length) (c0)) l := h_l
  show VC _ _ _ _ _ [(0, Value.slice A0 (d0.length) (c0)), (3, Value.int .i64 (((k : Nat) : Int))), (0, Value.slice A0 (d0.length) (c0)), (2, Value.int .i64 (((c0 : Nat) : Int)))] [(0, mout (wm W) (m0)), (1, l_m)]
  have ll_l := slice_len (OwnL.ow h_l rfl)
  refine VC.seq ?_
  refine VC.rs ?_
  refine VO.mv ?_
  refine VO.mv ?_
  refine VO.y rfl (.lenS rfl tsl23) ?_
  refine VO.y rfl (.lss rfl rfl) ?_
  refine VO.k4 0 2 3 9 ?_
  refine VC.cond rfl (fun hc1 => ?_) (fun hc1 => ?_)
  · -- T
    refine VC.skip ?_
    refine outN ?_
    refine VC.seq ?_
    refine VC.block ?_
    refine VC.reg ?_
    refine VO.mv ?_
    refine VO.mv ?_
    refine VO.mv ?_
    refine VO.mv ?_
    obtain ⟨x2, hx2⟩ : ∃ z_, (l)[k]? = some z_ := ⟨_, List.getElem?_eq_getElem bd⟩
    obtain ⟨gg2, oo2, ec2, ea2, hce2, hre2⟩ := h_l.elem hx2
    cases ea2
    obtain rfl := (show _ = _ from hre2)
    have xb2 := x2.toNat_lt
    refine VO.y rfl (.ixI k rfl rfl tsl23 rfl bd) ?_
    refine VO.y rfl (.ld1 1 rfl tk5 rfl hce2) ?_
    refine VO.y rfl (.cplB rfl bd) ?_
    refine VO.y rfl (.ixI k rfl rfl tsl23 rfl bd) ?_
    refine VO.upd (e := .byte) (k := 1) (i := k) (x' := UInt8.ofNat (255 - x2.toNat)) 1 0 rfl rfl (.inr ⟨tk5, rfl⟩) rfl rfl rfl (OwnL.ow h_l rfl) rfl hx2 rfl (fun mi ec he => upd1 he rfl rfl (rd_byteN bd)) (fun mu4 hu4 => ?_)
    have hl4 := slice_len hu4
    refine VO.k4 0 2 3 9 ?_
    refine outBN ?_
    refine outN ?_
    refine VC.reg ?_
    refine VO.mv ?_
    refine VO.y rfl (.add (c := ((k + 1 : Nat) : Int)) rfl rfl (by omega) ⟨bd, bd⟩) ?_
    refine VO.as ?_
    refine VO.k4 0 2 3 9 ?_
    exact outN ⟨⟨k + 1, (l).set k (UInt8.ofNat (255 - x2.toNat)), mu4⟩, ⟨by omega, by exact over_next hl ‹l[k]? = some _›, (Ow.ownl hu4 rfl mnil)⟩, bd, ⟨⟨rfl, rfl, rfl, rfl, trivial⟩, fun _ h => Inv.sub h [0, 1]⟩⟩
  · -- F
    refine VC.exit ?_
    refine outE ?_
    refine outE ?_
    refine outBB ?_
    refine outN ?_
    refine VC.block ?_
    refine VC.loop (G := (List UInt8) × Mem × Nat) (fun g => [(0, Value.slice A0 ((g.2.2)) (c0)), (2, Value.int .i64 (((c0 : Nat) : Int))), (3, Value.int .i64 (((k : Nat) : Int))), (9, Value.bool (decide (((k : Nat) : Int) < ((d0.length : Nat) : Int))))]) (fun g => [(0, mout (wm W) (m0)), (1, (g.2.1))]) (fun g => (∃ j, (g.1) = d0.map cplB ++ List.replicate j 99) ∧ ((g.2.2) ≤ c0) ∧ (OwnL .byte (g.2.1) mnil (.slice A0 ((g.2.2)) (c0)) (g.1))) (fun g => c0 - (g.2.2)) (l, l_m, d0.length) (⟨by (exact ⟨0, by rw [hl, List.take_of_length_le (by omega), List.drop_of_length_le (by omega)]; simp⟩), by omega, h_l⟩) ⟨⟨rfl, rfl, rfl, rfl, trivial⟩, fun _ h => h.sub [0, 1]⟩ ?_
    rintro ⟨l2, l2_m, l2_n⟩ ⟨hl2, hc, h_l2⟩
    replace hl2 : ∃ j, l2 = d0.map cplB ++ List.replicate j 99 := hl2
    replace hc : l2_n ≤ c0 := hc
    replace h_l2 : OwnL .byte l2_m mnil (.slice A0 (l2_n) (c0)) l2 := h_l2
    show VC _ _ _ _ _ [(0, Value.slice A0 (l2_n) (c0)), (2, Value.int .i64 (((c0 : Nat) : Int))), (3, Value.int .i64 (((k : Nat) : Int))), (9, Value.bool (decide (((k : Nat) : Int) < ((d0.length : Nat) : Int))))] [(0, mout (wm W) (m0)), (1, l2_m)]
    have ll_l2 := slice_len (OwnL.ow h_l2 rfl)
    refine VC.seq ?_
    refine VC.rs ?_
    refine VO.mv ?_
    refine VO.y rfl (.lenS rfl tsl23) ?_
    refine VO.mv ?_
    refine VO.y rfl (.lss rfl rfl) ?_
    refine VO.k5 0 2 3 9 23 ?_
    refine VC.cond rfl (fun hc5 => ?_) (fun hc5 => ?_)
    · -- FT
      refine VC.skip ?_
      refine outN ?_
      refine VC.block ?_
      refine VC.reg ?_
      refine VO.mv ?_
      refine VO.bsl (cs := [Value.int .u8 (99)]) 107 rfl rfl tsl23 tz5 rfl rfl (fun g6 => ?_)
      refine VO.inv ((109, mnil) :: _) (fun _ h => h.nilc 109) ?_
      have hxl8 := slice_len (OwnL.ow h_l2 rfl)
      refine VO.appI (e := .byte) (xs := l2) (cap := c0) (A := A0) (l := l2_n) 1 109 107 rfl rfl rfl tsl23 rfl rfl rfl (OwnL.ow h_l2 rfl) (Ow.of (m := mnil) rfl (rd_byteN bd)) Try.underlying23 (cellsAt_one rfl rfl) bd (fun m8 ho8 => ?_)
      refine VO.as ?_
      refine VO.k5 0 2 3 9 23 ?_
      refine outBN ?_
      exact outN ⟨⟨l2 ++ [UInt8.ofNat 99], m8, l2_n + 1⟩, ⟨by exact over_more hl2, by dsimp only; omega, (Ow.ownl ho8 rfl mnil)⟩, by (dsimp only; omega), ⟨⟨rfl, rfl, rfl, rfl, trivial⟩, fun _ h => Inv.sub h [0, 1]⟩⟩
    · -- FF
      refine VC.exit ?_
      refine outE ?_
      refine outE ?_
      refine outBB ?_
      have hcut0 := Ow.pre (j := d0.length) (OwnL.ow h_l2 rfl) bd
      refine ⟨_, _, res_run (rs := []) rfl .nil, fun W_ hI => out_of (l := [l2_m]) hI [1] rfl rfl (mle_refl _) (fun hS_ => ?_)⟩
      dsimp only [packV]
      have hm0_ : (d0.map cplB : Ty.Den (.sl .byte)) = (l2).take d0.length := by first | rfl | (obtain ⟨j, rfl⟩ := hl2; simp)
      refine ⟨?_, ?_⟩
      rotate_left
      · rw [hm0_]; exact (Ow.up hcut0 (hS_.1 _ (.head _)))
      all_goals (first | rfl | (simp [*]; done))
theorem ApartBytes_ok (W : World) {m0 : Mem} (hm : mle (m0) (wm W)) {v0 : Value} {d0 : List (List UInt8)} (h0 : Ow (.sl (.sl .byte)) m0 [v0] d0) (e0 : d0.length ≤ 1000) (e1 : ∀ x ∈ d0, x.length ≤ 140737488355000) : CallR Try.prog 36 [v0] W (m0) (fun v m' => v = .bool true) := by
  obtain ⟨A0, c0, e0_, l0, k0⟩ := h0.slice
  subst e0_
  simp only [maxLen] at k0
  refine CallR.ofB (n := 77) hm Try.func36 rfl rfl rfl ?_
  refine VC.rs ?_
  refine VO.as ?_
  refine VO.k2 0 2 ?_
  refine VC.rs ?_
  refine VO.mv ?_
  refine VO.y rfl (.lenS rfl tsl39) ?_
  refine VO.mks (e := (.sl .byte)) (a := ((d0.length : Nat) : Int)) (k := d0.length) 101 rfl rfl rfl rfl tsl39 tz23 (y := []) (Ow.nil _ mnil) (by simp only [maxLen]; (first | omega | (simp only [List.length_append, List.length_nil, List.length_cons, List.length_take, List.length_drop] at *; omega) | (have h_ := apart_len hl4 hw4 ‹l[_]? = some _› ‹was[_]? = some _›; omega) | (exact e1 _ (List.mem_of_getElem? ‹d0[_]? = some _›)))) (by first | omega | (simp only [List.length_append, List.length_nil, List.length_cons, List.length_take, List.length_drop] at *; omega) | (have h_ := apart_len hl4 hw4 ‹l[_]? = some _› ‹was[_]? = some _›; omega) | (exact e1 _ (List.mem_of_getElem? ‹d0[_]? = some _›))) (by decide) (fun v1 m1 hk1 => ?_)
  obtain ⟨A1, c1, rfl, l1, k1⟩ := hk1.slice
  simp only [maxLen] at k1
  have ln1 : (List.replicate d0.length ([] : List UInt8)).length = d0.length := List.length_replicate
  refine VO.as ?_
  refine VO.k3 0 2 3 ?_
  refine VC.seq ?_
  refine VC.rs ?_
  refine VO.as ?_
  refine VO.k4 0 2 3 4 ?_
  refine VC.block ?_
  refine VC.loop (G := Nat × (List (List UInt8)) × Mem) (fun g => [(3, Value.slice A1 ((List.replicate d0.length ([] : List UInt8)).length) (c1)), (4, Value.int .i64 ((((g.1) : Nat) : Int))), (0, Value.slice A0 (d0.length) (c0)), (2, Value.bool false), (3, Value.slice A1 ((List.replicate d0.length ([] : List UInt8)).length) (c1))]) (fun g => [(101, (g.2.2)), (0, mout (wm W) (m0)), (1, m0)]) (fun g => ((g.1) ≤ d0.length) ∧ ((g.2.1) = d0.take (g.1) ++ List.replicate (d0.length - (g.1)) []) ∧ (Ow (.sl (.sl .byte)) (g.2.2) [.slice A1 ((List.replicate d0.length ([] : List UInt8)).length) (c1)] (g.2.1))) (fun g => d0.length - (g.1)) (0, List.replicate d0.length ([] : List UInt8), m1) (⟨by omega, by simp, hk1⟩) ⟨⟨rfl, rfl, rfl, rfl, rfl, trivial⟩, fun _ h => h.sub [101, 0, 1]⟩ ?_
  rintro ⟨i, was, was_m⟩ ⟨hi, hw, h_was⟩
  replace hi : i ≤ d0.length := hi
  replace hw : was = d0.take i ++ List.replicate (d0.length - i) [] := hw
  replace h_was : Ow (.sl (.sl .byte)) was_m [.slice A1 ((List.replicate d0.length ([] : List UInt8)).length) (c1)] was := h_was
  show VC _ _ _ _ _ [(3, Value.slice A1 ((List.replicate d0.length ([] : List UInt8)).length) (c1)), (4, Value.int .i64 (((i : Nat) : Int))), (0, Value.slice A0 (d0.length) (c0)), (2, Value.bool false), (3, Value.slice A1 ((List.replicate d0.length ([] : List UInt8)).length) (c1))] [(101, was_m), (0, mout (wm W) (m0)), (1, m0)]
  have ll_was := slice_len h_was
  refine VC.seq ?_
  refine VC.rs ?_
  refine VO.mv ?_
  refine VO.mv ?_
  refine VO.y rfl (.lenS rfl tsl39) ?_
  refine VO.y rfl (.lss rfl rfl) ?_
  refine VO.k5 0 2 3 4 14 ?_
  refine VC.cond rfl (fun hc2 => ?_) (fun hc2 => ?_)
  · -- T
    refine VC.skip ?_
    refine outN ?_
    refine VC.seq ?_
    refine VC.block ?_
    refine VC.reg ?_
    refine VO.mv ?_
    refine VO.mv ?_
    refine VO.mv ?_
    refine VO.mv ?_
    obtain ⟨x3, hx3⟩ : ∃ z_, (d0)[i]? = some z_ := ⟨_, List.getElem?_eq_getElem (by first | omega | (simp only [List.length_append, List.length_nil, List.length_cons, List.length_take, List.length_drop] at *; omega) | (have h_ := apart_len hl4 hw4 ‹l[_]? = some _› ‹was[_]? = some _›; omega) | (exact e1 _ (List.mem_of_getElem? ‹d0[_]? = some _›)))⟩
    obtain ⟨gg3, oo3, ec3, ea3, hce3, hre3⟩ := (Ow.rd h0 (mle_refl _)).elem hx3
    cases ea3
    have hr3 := hre3
    obtain ⟨A3_, c3_, rfl, _⟩ := hre3
    have rr3 := Rd.room hr3
    refine VO.y rfl (.ixI i rfl rfl tsl39 rfl (by first | omega | (simp only [List.length_append, List.length_nil, List.length_cons, List.length_take, List.length_drop] at *; omega) | (have h_ := apart_len hl4 hw4 ‹l[_]? = some _› ‹was[_]? = some _›; omega) | (exact e1 _ (List.mem_of_getElem? ‹d0[_]? = some _›)))) ?_
    refine VO.y rfl (.ld1 1 rfl tk23 rfl hce3) ?_
    refine VO.callN 104 rfl fnOk44 rfl (fun W hW => CopyBytes_ok W (Rd.mono hr3 (hW.at (i := 1) rfl)) (by first | omega | (simp only [List.length_append, List.length_nil, List.length_cons, List.length_take, List.length_drop] at *; omega) | (have h_ := apart_len hl4 hw4 ‹l[_]? = some _› ‹was[_]? = some _›; omega) | (exact e1 _ (List.mem_of_getElem? ‹d0[_]? = some _›)))) (fun v4 m4 hv4 => ?_)
    obtain ⟨s4_0, rfl, f4_0⟩ := hv4
    obtain ⟨A4_0, c4_0, eq4_0, l4_0, k4_0⟩ := f4_0.slice
    subst eq4_0
    simp only [maxLen] at k4_0
    obtain ⟨x5, hx5⟩ : ∃ z_, (was)[i]? = some z_ := ⟨_, List.getElem?_eq_getElem (by first | omega | (simp only [List.length_append, List.length_nil, List.length_cons, List.length_take, List.length_drop] at *; omega) | (have h_ := apart_len hl4 hw4 ‹l[_]? = some _› ‹was[_]? = some _›; omega) | (exact e1 _ (List.mem_of_getElem? ‹d0[_]? = some _›)))⟩
    obtain ⟨gg5, oo5, ec5, ea5, hce5, hre5⟩ := (Ow.rd h_was (mle_refl _)).elem hx5
    cases ea5
    have hr5 := hre5
    obtain ⟨A5_, c5_, rfl, _⟩ := hre5
    have rr5 := Rd.room hr5
    refine VO.y rfl (.ixI i rfl rfl tsl39 rfl (by first | omega | (simp only [List.length_append, List.length_nil, List.length_cons, List.length_take, List.length_drop] at *; omega) | (have h_ := apart_len hl4 hw4 ‹l[_]? = some _› ‹was[_]? = some _›; omega) | (exact e1 _ (List.mem_of_getElem? ‹d0[_]? = some _›)))) ?_
    refine VO.setE (e := (.sl .byte)) (k := 1) (i := i) 101 104 rfl rfl (.inr ⟨tk23, rfl⟩) rfl rfl rfl rfl h_was rfl hx5 (x' := x3) (Ow.up (OwnL.ow (Ow.ownl f4_0 rfl mnil) rfl) ((Seps.one (mle_refl _)).1 _ (.head _))) (fun mu6 hu6 => ?_)
    have hl6 := slice_len hu6
    refine VO.k5 0 2 3 4 14 ?_
    refine outBN ?_
    refine outN ?_
    refine VC.reg ?_
    refine VO.mv ?_
    refine VO.y rfl (.add (c := ((i + 1 : Nat) : Int)) rfl rfl (by omega) ⟨by first | omega | (simp only [List.length_append, List.length_nil, List.length_cons, List.length_take, List.length_drop] at *; omega) | (have h_ := apart_len hl4 hw4 ‹l[_]? = some _› ‹was[_]? = some _›; omega) | (exact e1 _ (List.mem_of_getElem? ‹d0[_]? = some _›)), by first | omega | (simp only [List.length_append, List.length_nil, List.length_cons, List.length_take, List.length_drop] at *; omega) | (have h_ := apart_len hl4 hw4 ‹l[_]? = some _› ‹was[_]? = some _›; omega) | (exact e1 _ (List.mem_of_getElem? ‹d0[_]? = some _›))⟩) ?_
    refine VO.as ?_
    refine VO.k5 0 2 3 4 14 ?_
    exact outN ⟨⟨i + 1, (was).set i x3, mu6⟩, ⟨by omega, by exact fill_next hw ‹d0[i]? = some _›, hu6⟩, by first | omega | (simp only [List.length_append, List.length_nil, List.length_cons, List.length_take, List.length_drop] at *; omega) | (have h_ := apart_len hl4 hw4 ‹l[_]? = some _› ‹was[_]? = some _›; omega) | (exact e1 _ (List.mem_of_getElem? ‹d0[_]? = some _›)), ⟨⟨rfl, rfl, rfl, rfl, rfl, trivial⟩, fun _ h => Inv.sub h [101, 0, 1]⟩⟩
  · -- F
    refine VC.exit ?_
    refine outE ?_
    refine outE ?_
    refine outBB ?_
    refine outN ?_
    refine VC.seq ?_
    refine VC.rs ?_
    refine VO.as ?_
    refine VO.k6 0 2 3 4 5 14 ?_
    refine VC.block ?_
    refine VC.loop (G := Nat × (List (List UInt8)) × Mem) (fun g => [(0, Value.slice A0 (d0.length) (c0)), (5, Value.int .i64 ((((g.1) : Nat) : Int))), (0, Value.slice A0 (d0.length) (c0)), (3, Value.slice A1 ((List.replicate d0.length ([] : List UInt8)).length) (c1)), (4, Value.int .i64 (((i : Nat) : Int))), (14, Value.bool (decide (((i : Nat) : Int) < ((d0.length : Nat) : Int))))]) (fun g => [(101, was_m), (0, mout (wm W) (m0)), (1, (g.2.2))]) (fun g => (was = d0) ∧ ((g.1) ≤ d0.length) ∧ ((g.2.1) = (d0.take (g.1)).map (List.map cplB) ++ d0.drop (g.1)) ∧ (Ow (.sl (.sl .byte)) (g.2.2) [.slice A0 (d0.length) (c0)] (g.2.1))) (fun g => d0.length - (g.1)) (0, d0, m0) (⟨by exact fill_all hw (by omega), by omega, by simp, h0⟩) ⟨⟨rfl, rfl, rfl, rfl, rfl, rfl, trivial⟩, fun _ h => h.sub [101, 0, 1]⟩ ?_
    rintro ⟨j, l, l_m⟩ ⟨hw2, hj, hl, h_l⟩
    replace hw2 : was = d0 := hw2
    replace hj : j ≤ d0.length := hj
    replace hl : l = (d0.take j).map (List.map cplB) ++ d0.drop j := hl
    replace h_l : Ow (.sl (.sl .byte)) l_m [.slice A0 (d0.length) (c0)] l := h_l
    show VC _ _ _ _ _ [(0, Value.slice A0 (d0.length) (c0)), (5, Value.int .i64 (((j : Nat) : Int))), (0, Value.slice A0 (d0.length) (c0)), (3, Value.slice A1 ((List.replicate d0.length ([] : List UInt8)).length) (c1)), (4, Value.int .i64 (((i : Nat) : Int))), (14, Value.bool (decide (((i : Nat) : Int) < ((d0.length : Nat) : Int))))] [(101, was_m), (0, mout (wm W) (m0)), (1, l_m)]
    have ll_l := slice_len h_l
    refine VC.seq ?_
    refine VC.rs ?_
    refine VO.mv ?_
    refine VO.mv ?_
    refine VO.y rfl (.lenS rfl tsl39) ?_
    refine VO.y rfl (.lss rfl rfl) ?_
    refine VO.k6 0 3 4 5 14 28 ?_
    refine VC.cond rfl (fun hc7 => ?_) (fun hc7 => ?_)
    · -- FT
      refine VC.skip ?_
      refine outN ?_
      refine VC.seq ?_
      refine VC.block ?_
      refine VC.seq ?_
      refine VC.seq ?_
      refine VC.regD _ 8 [(0, true), (1, true), (2, true), (3, true), (4, true), (5, true), (6, true), (7, true)] follows (by kernel_rfl) (fun _ h => h.sub [101, 0, 1]) ?_
      refine VD.y rfl rfl (.inl rfl) (.mv rfl) ?_
      refine VD.y rfl rfl (.inl rfl) (.mv rfl) ?_
      obtain ⟨x8, hx8⟩ : ∃ z_, (l)[j]? = some z_ := ⟨_, List.getElem?_eq_getElem (by first | omega | (simp only [List.length_append, List.length_nil, List.length_cons, List.length_take, List.length_drop] at *; omega) | (have h_ := apart_len hl4 hw4 ‹l[_]? = some _› ‹was[_]? = some _›; omega) | (exact e1 _ (List.mem_of_getElem? ‹d0[_]? = some _›)))⟩
      obtain ⟨gg8, oo8, ec8, ea8, hce8, hre8⟩ := (Ow.rd h_l (mle_refl _)).elem hx8
      cases ea8
      have hr8 := hre8
      obtain ⟨A8_, c8_, rfl, _⟩ := hre8
      have rr8 := Rd.room hr8
      refine VD.y rfl rfl (.inl rfl) (.ixI j rfl rfl tsl39 rfl (by first | omega | (simp only [List.length_append, List.length_nil, List.length_cons, List.length_take, List.length_drop] at *; omega) | (have h_ := apart_len hl4 hw4 ‹l[_]? = some _› ‹was[_]? = some _›; omega) | (exact e1 _ (List.mem_of_getElem? ‹d0[_]? = some _›)))) ?_
      refine VD.y rfl rfl (.inl rfl) (.ld1 1 rfl tk23 rfl hce8) ?_
      refine VD.y rfl rfl (.inl rfl) (.mv rfl) ?_
      refine VD.y rfl rfl (.inl rfl) (.mv rfl) ?_
      obtain ⟨x9, hx9⟩ : ∃ z_, (was)[j]? = some z_ := ⟨_, List.getElem?_eq_getElem (by first | omega | (simp only [List.length_append, List.length_nil, List.length_cons, List.length_take, List.length_drop] at *; omega) | (have h_ := apart_len hl4 hw4 ‹l[_]? = some _› ‹was[_]? = some _›; omega) | (exact e1 _ (List.mem_of_getElem? ‹d0[_]? = some _›)))⟩
      obtain ⟨gg9, oo9, ec9, ea9, hce9, hre9⟩ := (Ow.rd h_was (mle_refl _)).elem hx9
      cases ea9
      have hr9 := hre9
      obtain ⟨A9_, c9_, rfl, _⟩ := hre9
      have rr9 := Rd.room hr9
      refine VD.y rfl rfl (.inl rfl) (.ixI j rfl rfl tsl39 rfl (by first | omega | (simp only [List.length_append, List.length_nil, List.length_cons, List.length_take, List.length_drop] at *; omega) | (have h_ := apart_len hl4 hw4 ‹l[_]? = some _› ‹was[_]? = some _›; omega) | (exact e1 _ (List.mem_of_getElem? ‹d0[_]? = some _›)))) ?_
      refine VD.y rfl rfl (.inl rfl) (.ld1 101 rfl tk23 rfl hce9) ?_
      refine VD.nil rfl ?_ rfl
      refine VO.callN 110 rfl fnOk33 rfl (fun W hW => SameBytes_ok W (Rd.mono hr8 (hW.at (i := 1) rfl)) (Rd.mono hr9 (hW.at (i := 101) rfl))) (fun v10 m10 hv10 => ?_)
      subst hv10
      refine VO.y rfl (.notD rfl) ?_
      refine VO.k7 0 3 4 5 14 28 40 ?_
      refine outN ?_
      refine VC.cond rfl (fun hc11 => ?_) (fun hc11 => ?_)
      · -- FTT
        exact absurd (apart_same hl hw2 ‹l[j]? = some _› ‹was[j]? = some _›) hc11
      · -- FTF
        refine VC.skip ?_
        refine outN ?_
        refine VC.reg ?_
        refine VO.mv ?_
        refine VO.mv ?_
        refine VO.y rfl (.ixI j rfl rfl tsl39 rfl (by first | omega | (simp only [List.length_append, List.length_nil, List.length_cons, List.length_take, List.length_drop] at *; omega) | (have h_ := apart_len hl4 hw4 ‹l[_]? = some _› ‹was[_]? = some _›; omega) | (exact e1 _ (List.mem_of_getElem? ‹d0[_]? = some _›)))) ?_
        refine VO.y rfl (.ld1 1 rfl tk23 rfl hce8) ?_
        obtain ⟨mr13, me13, hH13, hE13, hB13⟩ := Ow.hole h_l hx8 hce8
        refine VO.parts 1 [1, 114] rfl hH13 ?_
        refine VO.call 114 rfl fnOk100 rfl rfl (fun W hW => OverBytes_ok W (hW.at (i := 114) rfl) hE13) (fun v13 m13 hv13 => ?_)
        obtain ⟨rfl, w13_0⟩ := hv13
        have wl13_0 := slice_len w13_0
        refine VO.gather (l := [mr13, m13]) 1 [1, 114] rfl (fun hg13 => ?_)
        have hL13 := Seps.back hg13 (fun hd_ => hB13 _ _ hd_ w13_0)
        have hl13 := slice_len hL13
        refine VO.k7 0 3 4 5 14 28 40 ?_
        refine outBN ?_
        refine outN ?_
        refine VC.reg ?_
        refine VO.mv ?_
        refine VO.y rfl (.add (c := ((j + 1 : Nat) : Int)) rfl rfl (by omega) ⟨by first | omega | (simp only [List.length_append, List.length_nil, List.length_cons, List.length_take, List.length_drop] at *; omega) | (have h_ := apart_len hl4 hw4 ‹l[_]? = some _› ‹was[_]? = some _›; omega) | (exact e1 _ (List.mem_of_getElem? ‹d0[_]? = some _›)), by first | omega | (simp only [List.length_append, List.length_nil, List.length_cons, List.length_take, List.length_drop] at *; omega) | (have h_ := apart_len hl4 hw4 ‹l[_]? = some _› ‹was[_]? = some _›; omega) | (exact e1 _ (List.mem_of_getElem? ‹d0[_]? = some _›))⟩) ?_
        refine VO.as ?_
        refine VO.k7 0 3 4 5 14 28 40 ?_
        exact outN ⟨⟨j + 1, (l).set j (x8.map cplB), muns [mr13, m13]⟩, ⟨by exact hw2, by omega, by exact (over_set hl ‹l[j]? = some _›).2, hL13⟩, by first | omega | (simp only [List.length_append, List.length_nil, List.length_cons, List.length_take, List.length_drop] at *; omega) | (have h_ := apart_len hl4 hw4 ‹l[_]? = some _› ‹was[_]? = some _›; omega) | (exact e1 _ (List.mem_of_getElem? ‹d0[_]? = some _›)), ⟨⟨rfl, rfl, rfl, rfl, rfl, rfl, trivial⟩, fun _ h => Inv.sub h [101, 0, 1]⟩⟩
    · -- FF
      refine VC.exit ?_
      refine outE ?_
      refine outE ?_
      refine outBB ?_
      refine outN ?_
      refine VC.seq ?_
      refine VC.rs ?_
      refine VO.as ?_
      refine VO.k7 0 3 4 5 6 14 28 ?_
      refine VC.block ?_
      refine VC.loop (G := Nat) (fun p => [(6, Value.int .i64 (((p : Nat) : Int))), (0, Value.slice A0 (d0.length) (c0)), (3, Value.slice A1 ((List.replicate d0.length ([] : List UInt8)).length) (c1)), (4, Value.int .i64 (((i : Nat) : Int))), (5, Value.int .i64 (((j : Nat) : Int))), (14, Value.bool (decide (((i : Nat) : Int) < ((d0.length : Nat) : Int)))), (28, Value.bool (decide (((j : Nat) : Int) < ((d0.length : Nat) : Int))))]) (fun p => [(101, was_m), (0, mout (wm W) (m0)), (1, l_m)]) (fun p => (was = d0) ∧ (p ≤ d0.length) ∧ (l = d0.map (List.map cplB))) (fun p => d0.length - p) 0 (⟨by exact hw2, by omega, by exact over_all hl (by omega)⟩) ⟨⟨rfl, rfl, rfl, rfl, rfl, rfl, rfl, trivial⟩, fun _ h => h.sub [101, 0, 1]⟩ ?_
      rintro p ⟨hw4, hp, hl4⟩
      refine VC.seq ?_
      refine VC.rs ?_
      refine VO.mv ?_
      refine VO.mv ?_
      refine VO.y rfl (.lenS rfl tsl39) ?_
      refine VO.y rfl (.lss rfl rfl) ?_
      refine VO.k8 0 3 4 5 6 14 28 49 ?_
      refine VC.cond rfl (fun hc15 => ?_) (fun hc15 => ?_)
      · -- FFT
        refine VC.skip ?_
        refine outN ?_
        refine VC.seq ?_
        refine VC.block ?_
        refine VC.rs ?_
        refine VO.as ?_
        refine VO.k9 0 3 4 5 6 7 14 28 49 ?_
        refine VC.block ?_
        refine VC.loop (G := Nat) (fun k => [(7, Value.int .i64 (((k : Nat) : Int))), (0, Value.slice A0 (d0.length) (c0)), (3, Value.slice A1 ((List.replicate d0.length ([] : List UInt8)).length) (c1)), (4, Value.int .i64 (((i : Nat) : Int))), (5, Value.int .i64 (((j : Nat) : Int))), (6, Value.int .i64 (((p : Nat) : Int))), (14, Value.bool (decide (((i : Nat) : Int) < ((d0.length : Nat) : Int)))), (28, Value.bool (decide (((j : Nat) : Int) < ((d0.length : Nat) : Int)))), (49, Value.bool (decide (((p : Nat) : Int) < ((d0.length : Nat) : Int))))]) (fun k => [(101, was_m), (0, mout (wm W) (m0)), (1, l_m)]) (fun k => (k ≤ 9223372036854775807)) (fun k => 9223372036854775807 - k) 0 (by omega) ⟨⟨rfl, rfl, rfl, rfl, rfl, rfl, rfl, rfl, rfl, trivial⟩, fun _ h => h.sub [101, 0, 1]⟩ ?_
        rintro k hk
        refine VC.seq ?_
        refine VC.rs ?_
        refine VO.mv ?_
        refine VO.mv ?_
        refine VO.mv ?_
        obtain ⟨x16, hx16⟩ : ∃ z_, (l)[p]? = some z_ := ⟨_, List.getElem?_eq_getElem (by first | omega | (simp only [List.length_append, List.length_nil, List.length_cons, List.length_take, List.length_drop] at *; omega) | (have h_ := apart_len hl4 hw4 ‹l[_]? = some _› ‹was[_]? = some _›; omega) | (exact e1 _ (List.mem_of_getElem? ‹d0[_]? = some _›)))⟩
        obtain ⟨gg16, oo16, ec16, ea16, hce16, hre16⟩ := (Ow.rd h_l (mle_refl _)).elem hx16
        cases ea16
        have hr16 := hre16
        obtain ⟨A16_, c16_, rfl, _⟩ := hre16
        have rr16 := Rd.room hr16
        refine VO.y rfl (.ixI p rfl rfl tsl39 rfl (by first | omega | (simp only [List.length_append, List.length_nil, List.length_cons, List.length_take, List.length_drop] at *; omega) | (have h_ := apart_len hl4 hw4 ‹l[_]? = some _› ‹was[_]? = some _›; omega) | (exact e1 _ (List.mem_of_getElem? ‹d0[_]? = some _›)))) ?_
        refine VO.y rfl (.ld1 1 rfl tk23 rfl hce16) ?_
        refine VO.y rfl (.lenS rfl tsl23) ?_
        refine VO.y rfl (.lss rfl rfl) ?_
        refine VO.k10 0 3 4 5 6 7 14 28 49 58 ?_
        refine VC.cond rfl (fun hc17 => ?_) (fun hc17 => ?_)
        · -- FFTT
          refine VC.skip ?_
          refine outN ?_
          refine VC.seq ?_
          refine VC.block ?_
          refine VC.seq ?_
          refine VC.regD _ 15 [(0, true), (1, true), (2, true), (3, true), (4, true), (5, true), (6, true), (7, true), (8, true), (9, true), (10, true), (11, true), (12, true), (13, true), (14, true)] follows (by kernel_rfl) (fun _ h => h.sub [101, 0, 1]) ?_
          refine VD.y rfl rfl (.inl rfl) (.mv rfl) ?_
          refine VD.y rfl rfl (.inl rfl) (.mv rfl) ?_
          refine VD.y rfl rfl (.inl rfl) (.ixI p rfl rfl tsl39 rfl (by first | omega | (simp only [List.length_append, List.length_nil, List.length_cons, List.length_take, List.length_drop] at *; omega) | (have h_ := apart_len hl4 hw4 ‹l[_]? = some _› ‹was[_]? = some _›; omega) | (exact e1 _ (List.mem_of_getElem? ‹d0[_]? = some _›)))) ?_
          refine VD.y rfl rfl (.inl rfl) (.ld1 1 rfl tk23 rfl hce16) ?_
          refine VD.y rfl rfl (.inl rfl) (.mv rfl) ?_
          obtain ⟨x19, hx19⟩ : ∃ z_, (x16)[k]? = some z_ := ⟨_, List.getElem?_eq_getElem (by first | omega | (simp only [List.length_append, List.length_nil, List.length_cons, List.length_take, List.length_drop] at *; omega) | (have h_ := apart_len hl4 hw4 ‹l[_]? = some _› ‹was[_]? = some _›; omega) | (exact e1 _ (List.mem_of_getElem? ‹d0[_]? = some _›)))⟩
          obtain ⟨gg19, oo19, ec19, ea19, hce19, hre19⟩ := hr16.elem hx19
          cases ea19
          obtain rfl := (show _ = _ from hre19)
          have xb19 := x19.toNat_lt
          refine VD.y rfl rfl (.inl rfl) (.ixI k rfl rfl tsl23 rfl (by first | omega | (simp only [List.length_append, List.length_nil, List.length_cons, List.length_take, List.length_drop] at *; omega) | (have h_ := apart_len hl4 hw4 ‹l[_]? = some _› ‹was[_]? = some _›; omega) | (exact e1 _ (List.mem_of_getElem? ‹d0[_]? = some _›)))) ?_
          refine VD.y rfl rfl (.inl rfl) (.ld1 1 rfl tk5 rfl hce19) ?_
          refine VD.y rfl rfl (.inl rfl) (.mv rfl) ?_
          refine VD.y rfl rfl (.inl rfl) (.mv rfl) ?_
          obtain ⟨x20, hx20⟩ : ∃ z_, (was)[p]? = some z_ := ⟨_, List.getElem?_eq_getElem (by first | omega | (simp only [List.length_append, List.length_nil, List.length_cons, List.length_take, List.length_drop] at *; omega) | (have h_ := apart_len hl4 hw4 ‹l[_]? = some _› ‹was[_]? = some _›; omega) | (exact e1 _ (List.mem_of_getElem? ‹d0[_]? = some _›)))⟩
          obtain ⟨gg20, oo20, ec20, ea20, hce20, hre20⟩ := (Ow.rd h_was (mle_refl _)).elem hx20
          cases ea20
          have hr20 := hre20
          obtain ⟨A20_, c20_, rfl, _⟩ := hre20
          have rr20 := Rd.room hr20
          refine VD.y rfl rfl (.inl rfl) (.ixI p rfl rfl tsl39 rfl (by first | omega | (simp only [List.length_append, List.length_nil, List.length_cons, List.length_take, List.length_drop] at *; omega) | (have h_ := apart_len hl4 hw4 ‹l[_]? = some _› ‹was[_]? = some _›; omega) | (exact e1 _ (List.mem_of_getElem? ‹d0[_]? = some _›)))) ?_
          refine VD.y rfl rfl (.inl rfl) (.ld1 101 rfl tk23 rfl hce20) ?_
          refine VD.y rfl rfl (.inl rfl) (.mv rfl) ?_
          obtain ⟨x21, hx21⟩ : ∃ z_, (x20)[k]? = some z_ := ⟨_, List.getElem?_eq_getElem (by first | omega | (simp only [List.length_append, List.length_nil, List.length_cons, List.length_take, List.length_drop] at *; omega) | (have h_ := apart_len hl4 hw4 ‹l[_]? = some _› ‹was[_]? = some _›; omega) | (exact e1 _ (List.mem_of_getElem? ‹d0[_]? = some _›)))⟩
          obtain ⟨gg21, oo21, ec21, ea21, hce21, hre21⟩ := hr20.elem hx21
          cases ea21
          obtain rfl := (show _ = _ from hre21)
          have xb21 := x21.toNat_lt
          refine VD.y rfl rfl (.inl rfl) (.ixI k rfl rfl tsl23 rfl (by first | omega | (simp only [List.length_append, List.length_nil, List.length_cons, List.length_take, List.length_drop] at *; omega) | (have h_ := apart_len hl4 hw4 ‹l[_]? = some _› ‹was[_]? = some _›; omega) | (exact e1 _ (List.mem_of_getElem? ‹d0[_]? = some _›)))) ?_
          refine VD.y rfl rfl (.inl rfl) (.ld1 101 rfl tk5 rfl hce21) ?_
          refine VD.y rfl rfl (.inl rfl) (.cplB rfl (by first | omega | (simp only [List.length_append, List.length_nil, List.length_cons, List.length_take, List.length_drop] at *; omega) | (have h_ := apart_len hl4 hw4 ‹l[_]? = some _› ‹was[_]? = some _›; omega) | (exact e1 _ (List.mem_of_getElem? ‹d0[_]? = some _›)))) ?_
          refine VD.nil rfl ?_ rfl
          refine VO.y rfl (.neq rfl rfl) ?_
          refine VO.k11 0 3 4 5 6 7 14 28 49 58 76 ?_
          refine outN ?_
          refine VC.cond rfl (fun hc22 => ?_) (fun hc22 => ?_)
          · -- FFTTT
            exact absurd (by have h_ := apart_eq (f := cplB) hl4 hw4 ‹l[p]? = some _› ‹was[p]? = some _› (by assumption) (by assumption); rw [h_, cplB_toNat]) hc22
          · -- FFTTF
            refine VC.skip ?_
            refine outBN ?_
            refine outN ?_
            refine VC.reg ?_
            refine VO.mv ?_
            refine VO.y rfl (.add (c := ((k + 1 : Nat) : Int)) rfl rfl (by omega) ⟨by first | omega | (simp only [List.length_append, List.length_nil, List.length_cons, List.length_take, List.length_drop] at *; omega) | (have h_ := apart_len hl4 hw4 ‹l[_]? = some _› ‹was[_]? = some _›; omega) | (exact e1 _ (List.mem_of_getElem? ‹d0[_]? = some _›)), by first | omega | (simp only [List.length_append, List.length_nil, List.length_cons, List.length_take, List.length_drop] at *; omega) | (have h_ := apart_len hl4 hw4 ‹l[_]? = some _› ‹was[_]? = some _›; omega) | (exact e1 _ (List.mem_of_getElem? ‹d0[_]? = some _›))⟩) ?_
            refine VO.as ?_
            refine VO.inv [(101, _), (0, _), (1, _)] (fun _ h => h.sub [101, 0, 1]) ?_
            refine VO.k11 0 3 4 5 6 7 14 28 49 58 76 ?_
            exact outN ⟨k + 1, by omega, by first | omega | (simp only [List.length_append, List.length_nil, List.length_cons, List.length_take, List.length_drop] at *; omega) | (have h_ := apart_len hl4 hw4 ‹l[_]? = some _› ‹was[_]? = some _›; omega) | (exact e1 _ (List.mem_of_getElem? ‹d0[_]? = some _›)), ⟨⟨rfl, rfl, rfl, rfl, rfl, rfl, rfl, rfl, rfl, trivial⟩, fun _ h => Inv.sub h [101, 0, 1]⟩⟩
        · -- FFTF
          refine VC.exit ?_
          refine outE ?_
          refine outE ?_
          refine outBB ?_
          refine outBN ?_
          refine outN ?_
          refine VC.reg ?_
          refine VO.mv ?_
          refine VO.y rfl (.add (c := ((p + 1 : Nat) : Int)) rfl rfl (by omega) ⟨by first | omega | (simp only [List.length_append, List.length_nil, List.length_cons, List.length_take, List.length_drop] at *; omega) | (have h_ := apart_len hl4 hw4 ‹l[_]? = some _› ‹was[_]? = some _›; omega) | (exact e1 _ (List.mem_of_getElem? ‹d0[_]? = some _›)), by first | omega | (simp only [List.length_append, List.length_nil, List.length_cons, List.length_take, List.length_drop] at *; omega) | (have h_ := apart_len hl4 hw4 ‹l[_]? = some _› ‹was[_]? = some _›; omega) | (exact e1 _ (List.mem_of_getElem? ‹d0[_]? = some _›))⟩) ?_
          refine VO.as ?_
          refine VO.k10 0 3 4 5 6 7 14 28 49 58 ?_
          exact outN ⟨p + 1, ⟨by exact hw4, by omega, by exact hl4⟩, by first | omega | (simp only [List.length_append, List.length_nil, List.length_cons, List.length_take, List.length_drop] at *; omega) | (have h_ := apart_len hl4 hw4 ‹l[_]? = some _› ‹was[_]? = some _›; omega) | (exact e1 _ (List.mem_of_getElem? ‹d0[_]? = some _›)), ⟨⟨rfl, rfl, rfl, rfl, rfl, rfl, rfl, trivial⟩, fun _ h => Inv.sub h [101, 0, 1]⟩⟩
      · -- FFF
        refine VC.exit ?_
        refine outE ?_
        refine outE ?_
        refine outBB ?_
        refine outN ?_
        refine VC.rs ?_
        refine VO.as ?_
        refine VO.k9 0 2 3 4 5 6 14 28 49 ?_
        refine VC.ret ?_
        refine ⟨_, _, res_run (rs := [.tmp 2]) rfl (.tmp rfl .nil), fun W_ hI => out_of (l := []) hI [] rfl rfl (mle_refl _) (fun hS_ => ?_)⟩
        dsimp only [packV]
        all_goals (first | rfl | (simp [*]; done))
end
section
set_option linter.unusedVariables false
set_option linter.unusedSimpArgs false
set_option maxRecDepth 4000
theorem fnOk31 : fnOk Try.prog 31 = true := by kernel_rfl
theorem fnOk34 : fnOk Try.prog 34 = true := by kernel_rfl
theorem fnOk35 : fnOk Try.prog 35 = true := by kernel_rfl
theorem fnOk36 : fnOk Try.prog 36 = true := by kernel_rfl
theorem batchCalls_ok (W : World) {v0 : Value} {d0 : List UInt8} (h0 : Rd (.sl .byte) (wm W) [v0] d0) {v1 : Value} {d1 : List DOp} (h1 : Rd (.sl TOp) (wm W) [v1] d1) (e0 : d0.length ≤ 140737488351232) : CallR Try.prog 4 [v0, v1] W (mnil) (fun v m' => v = .bool true) := by
  obtain ⟨A0, c0, rfl, l0, k0⟩ := h0.slice
  simp only [maxLen] at k0
  obtain ⟨A1, c1, rfl, l1, k1⟩ := h1.slice
  simp only [maxLen] at k1
  refine CallR.ofA (n := 89) Try.func4 rfl rfl rfl ?_
  refine VC.rs ?_
  refine VO.as ?_
  refine VO.k3 0 1 4 ?_
  refine VC.seq ?_
  refine VC.rs ?_
  refine VO.mv ?_
  refine VO.y rfl (.lenS rfl tsl22) ?_
  refine VO.y rfl (.gtr rfl rfl) ?_
  refine VO.k4 0 1 4 15 ?_
  refine VC.cond rfl (fun hc1 => ?_) (fun hc1 => ?_)
  · -- T
    refine VC.rs ?_
    refine VO.callN 102 rfl fnOk25 rfl (fun W hW => lives03_ok W ) (fun v2 m2 hv2 => ?_)
    subst hv2
    refine VO.as ?_
    refine VO.k4 0 1 4 15 ?_
    refine VC.ret ?_
    refine outR ?_
    refine ⟨_, _, res_run (rs := [.tmp 4]) rfl (.tmp rfl .nil), fun W_ hI => out_of (l := []) hI [] rfl rfl (mle_refl _) (fun hS_ => ?_)⟩
    dsimp only [packV]
    all_goals (first | rfl | (rfl))
  · -- F
    refine VC.skip ?_
    refine outN ?_
    refine VC.rs ?_
    refine VO.mv ?_
    refine VO.callN 103 rfl fnOk28 rfl (fun W hW => LentBytes_ok W (Rd.mono h0 (hW.at (i := 0) rfl)) bd) (fun v3 m3 hv3 => ?_)
    obtain ⟨s3_0, rfl, f3_0⟩ := hv3
    obtain ⟨A3_0, c3_0, eq3_0, l3_0, k3_0⟩ := f3_0.slice
    subst eq3_0
    simp only [maxLen] at k3_0
    refine VO.mv ?_
    refine VO.callN 104 rfl fnOk29 rfl (fun W hW => LentOps_ok W (Rd.mono h1 (hW.at (i := 0) rfl)) bd) (fun v4 m4 hv4 => ?_)
    obtain ⟨s4_0, rfl, f4_0⟩ := hv4
    obtain ⟨A4_0, c4_0, eq4_0, l4_0, k4_0⟩ := f4_0.slice
    subst eq4_0
    simp only [maxLen] at k4_0
    refine VO.as ?_
    refine VO.as ?_
    refine VO.k6 0 1 4 5 6 15 ?_
    refine VC.seq ?_
    refine VC.regD _ 13 [(0, true), (1, true), (2, true), (3, true), (4, true), (5, true), (6, true), (7, true), (8, false), (9, true), (10, true), (11, true), (12, true)] follows (by kernel_rfl) (fun _ h => h.sub [104, 103, 0]) ?_
    refine VD.y rfl rfl (.inl rfl) (.mv rfl) ?_
    refine VD.y rfl rfl (.inl rfl) (.mv rfl) ?_
    refine VD.y rfl rfl (.inl rfl) (.lenS rfl tsl23) ?_
    have hs5 := (OwnL.rd (Ow.ownl f3_0 rfl mnil) (mle_refl _) (mle_nil _)).pre (j := d0.length) bd
    rw [List.take_left] at hs5
    refine VD.y rfl rfl (.inl rfl) (.slHI d0.length rfl rfl tsl23 rfl bd) ?_
    refine VD.y rfl rfl (.inl rfl) (.mv rfl) ?_
    refine VD.y rfl rfl (.inl rfl) (.mv rfl) ?_
    refine VD.y rfl rfl (.inl rfl) (.lenS rfl tsl22) ?_
    have hs6 := (OwnL.rd (Ow.ownl f4_0 rfl mnil) (mle_refl _) (mle_nil _)).pre (j := d1.length) bd
    rw [List.take_left] at hs6
    refine VD.y rfl rfl (.inl rfl) (.slHI d1.length rfl rfl tsl22 rfl bd) ?_
    refine VD.callN 107 rfl rfl (.inl rfl) fnOk30 rfl (fun _ h => h.sub [104, 103, 0]) (fun W hW => bAppend_ok W (OwnL.rd (by have h_ := ((Ow.ownl f3_0 rfl mnil).pre (j := d0.length) bd); rw [List.take_left] at h_; exact h_) (hW.at (i := 103) rfl) (mle_nil _)) (OwnL.rd (by have h_ := ((Ow.ownl f4_0 rfl mnil).pre (j := d1.length) bd); rw [List.take_left] at h_; exact h_) (hW.at (i := 104) rfl) (mle_nil _)) bd) (fun v7 m7 hv7 => ?_)
    obtain ⟨s7_0, rfl, f7_0⟩ := hv7
    obtain ⟨A7_0, c7_0, eq7_0, l7_0, k7_0⟩ := f7_0.slice
    subst eq7_0
    simp only [maxLen] at k7_0
    have hfa8 := bAppend_len d0 d1
    refine VD.y rfl rfl (.inl rfl) (.mv rfl) ?_
    refine VD.y rfl rfl (.inl rfl) (.ext rfl rfl) ?_
    refine VD.y rfl rfl (.inl rfl) (.ext rfl rfl) ?_
    refine VD.y rfl rfl (.inl rfl) (.as rfl) ?_
    refine VD.nil rfl ?_ rfl
    refine VO.as ?_
    refine VO.k8 0 1 4 5 6 7 8 15 ?_
    refine outN ?_
    refine VC.seq ?_
    refine VC.regD _ 13 [(0, true), (1, true), (2, true), (3, true), (4, true), (5, true), (6, true), (7, true), (8, false), (9, true), (10, true), (11, true), (12, true)] follows (by kernel_rfl) (fun _ h => h.sub [107, 104, 103, 0]) ?_
    refine VD.y rfl rfl (.inl rfl) (.mv rfl) ?_
    refine VD.y rfl rfl (.inl rfl) (.mv rfl) ?_
    refine VD.y rfl rfl (.inl rfl) (.lenS rfl tsl23) ?_
    have hs9 := (OwnL.rd (Ow.ownl f3_0 rfl mnil) (mle_refl _) (mle_nil _)).pre (j := d0.length) bd
    rw [List.take_left] at hs9
    refine VD.y rfl rfl (.inl rfl) (.slHI d0.length rfl rfl tsl23 rfl bd) ?_
    refine VD.y rfl rfl (.inl rfl) (.mv rfl) ?_
    refine VD.y rfl rfl (.inl rfl) (.mv rfl) ?_
    refine VD.y rfl rfl (.inl rfl) (.lenS rfl tsl22) ?_
    have hs10 := (OwnL.rd (Ow.ownl f4_0 rfl mnil) (mle_refl _) (mle_nil _)).pre (j := d1.length) bd
    rw [List.take_left] at hs10
    refine VD.y rfl rfl (.inl rfl) (.slHI d1.length rfl rfl tsl22 rfl bd) ?_
    refine VD.callN 111 rfl rfl (.inl rfl) fnOk30 rfl (fun _ h => h.sub [107, 104, 103, 0]) (fun W hW => bAppend_ok W (OwnL.rd (by have h_ := ((Ow.ownl f3_0 rfl mnil).pre (j := d0.length) bd); rw [List.take_left] at h_; exact h_) (hW.at (i := 103) rfl) (mle_nil _)) (OwnL.rd (by have h_ := ((Ow.ownl f4_0 rfl mnil).pre (j := d1.length) bd); rw [List.take_left] at h_; exact h_) (hW.at (i := 104) rfl) (mle_nil _)) bd) (fun v11 m11 hv11 => ?_)
    obtain ⟨s11_0, rfl, f11_0⟩ := hv11
    obtain ⟨A11_0, c11_0, eq11_0, l11_0, k11_0⟩ := f11_0.slice
    subst eq11_0
    simp only [maxLen] at k11_0
    have hfa12 := bAppend_len d0 d1
    refine VD.y rfl rfl (.inl rfl) (.mv rfl) ?_
    refine VD.y rfl rfl (.inl rfl) (.ext rfl rfl) ?_
    refine VD.y rfl rfl (.inl rfl) (.ext rfl rfl) ?_
    refine VD.y rfl rfl (.inl rfl) (.as rfl) ?_
    refine VD.nil rfl ?_ rfl
    refine VO.as ?_
    refine VO.k9 0 1 4 5 6 7 8 9 15 ?_
    refine outN ?_
    refine VC.rs ?_
    refine VO.mv ?_
    refine VO.mv ?_
    refine VO.callN 113 rfl fnOk31 rfl (fun W hW => rbAppend_ok W (Rd.mono h0 (hW.at (i := 0) rfl)) (Rd.mono h1 (hW.at (i := 0) rfl)) bd) (fun v13 m13 hv13 => ?_)
    obtain ⟨s13_0, rfl, f13_0⟩ := hv13
    obtain ⟨A13_0, c13_0, eq13_0, l13_0, k13_0⟩ := f13_0.slice
    subst eq13_0
    simp only [maxLen] at k13_0
    have hfa14 := bAppend_len d0 d1
    refine VO.mv ?_
    refine VO.y rfl (.ext rfl rfl) ?_
    refine VO.y rfl (.ext rfl rfl) ?_
    refine VO.as ?_
    refine VO.as ?_
    refine VO.k11 0 1 4 5 6 7 8 9 11 12 15 ?_
    refine VC.rs ?_
    refine VO.callN 115 rfl fnOk25 rfl (fun W hW => lives03_ok W ) (fun v15 m15 hv15 => ?_)
    subst hv15
    refine VO.mv ?_
    refine VO.gy rfl ⟨_, rfl, rfl⟩ (.mv rfl) ?_
    refine VO.gy rfl ⟨_, rfl, rfl⟩ (.mv rfl) ?_
    refine VO.gy rfl ⟨_, rfl, rfl⟩ (.lenS rfl tsl22) ?_
    have hs16 := (OwnL.rd (Ow.ownl f4_0 rfl mnil) (mle_refl _) (mle_nil _)).pre (j := d1.length) bd
    rw [List.take_left] at hs16
    refine VO.gy rfl ⟨_, rfl, rfl⟩ (.slHI d1.length rfl rfl tsl22 rfl bd) ?_
    refine VO.gcallN 117 rfl ⟨_, rfl, rfl⟩ fnOk26 rfl (fun W hW => bCheck_ok W (OwnL.rd (by have h_ := ((Ow.ownl f4_0 rfl mnil).pre (j := d1.length) bd); rw [List.take_left] at h_; exact h_) (hW.at (i := 104) rfl) (mle_nil _))) (fun v17 m17 hv17 => ?_)
    subst hv17
    have hfa18 := batchCheck_range d1
    refine VO.gy rfl ⟨_, rfl, rfl⟩ (.mv rfl) ?_
    refine VO.gcallN 119 rfl ⟨_, rfl, rfl⟩ fnOk32 rfl (fun W hW => rbCheck_ok W (Rd.mono h1 (hW.at (i := 0) rfl))) (fun v19 m19 hv19 => ?_)
    subst hv19
    have hfa20 := batchCheck_range d1
    refine VO.gy rfl ⟨_, rfl, rfl⟩ (.eql rfl rfl) ?_
    refine VO.y rfl (.pT rfl rfl) ?_
    refine VO.mv ?_
    refine VO.dec (t := 62) rfl (fun hc21 => ?_) (fun hc21 => ?_)
    · -- FT
      refine VO.gy rfl ⟨_, rfl, rfl⟩ (.mv rfl) ?_
      refine VO.gy rfl ⟨_, rfl, rfl⟩ (.mv rfl) ?_
      refine VO.gy rfl ⟨_, rfl, rfl⟩ (.eql rfl rfl) ?_
      refine VO.y rfl (.pT rfl rfl) ?_
      refine VO.mv ?_
      refine VO.dec (t := 67) rfl (fun hc22 => ?_) (fun hc22 => ?_)
      · -- FTT
        refine VO.gy rfl ⟨_, rfl, rfl⟩ (.mv rfl) ?_
        refine VO.gy rfl ⟨_, rfl, rfl⟩ (.mv rfl) ?_
        refine VO.gcallN 123 rfl ⟨_, rfl, rfl⟩ fnOk33 rfl (fun W hW => SameBytes_ok W (OwnL.rd (Ow.ownl f7_0 rfl mnil) (hW.at (i := 107) rfl) (mle_nil _)) (OwnL.rd (Ow.ownl f13_0 rfl mnil) (hW.at (i := 113) rfl) (mle_nil _))) (fun v23 m23 hv23 => ?_)
        subst hv23
        refine VO.y rfl (.pT rfl rfl) ?_
        refine VO.mv ?_
        refine VO.dec (t := 72) rfl (fun hc24 => ?_) (fun hc24 => ?_)
        · -- FTTT
          refine VO.gy rfl ⟨_, rfl, rfl⟩ (.mv rfl) ?_
          refine VO.gy rfl ⟨_, rfl, rfl⟩ (.mv rfl) ?_
          refine VO.gcallN 125 rfl ⟨_, rfl, rfl⟩ fnOk34 rfl (fun W hW => KeptBytes_ok W (OwnL.rd (Ow.ownl f3_0 rfl mnil) (hW.at (i := 103) rfl) (mle_nil _)) (Rd.mono h0 (hW.at (i := 0) rfl)) bd) (fun v25 m25 hv25 => ?_)
          subst hv25
          refine VO.y rfl (.pT rfl rfl) ?_
          refine VO.mv ?_
          refine VO.dec (t := 77) rfl (fun hc26 => ?_) (fun hc26 => ?_)
          · -- FTTTT
            refine VO.gy rfl ⟨_, rfl, rfl⟩ (.mv rfl) ?_
            refine VO.gy rfl ⟨_, rfl, rfl⟩ (.mv rfl) ?_
            refine VO.gcallN 127 rfl ⟨_, rfl, rfl⟩ fnOk35 rfl (fun W hW => KeptOps_ok W (OwnL.rd (Ow.ownl f4_0 rfl mnil) (hW.at (i := 104) rfl) (mle_nil _)) (Rd.mono h1 (hW.at (i := 0) rfl)) bd) (fun v27 m27 hv27 => ?_)
            subst hv27
            refine VO.y rfl (.pT rfl rfl) ?_
            refine VO.mv ?_
            refine VO.dec (t := 82) rfl (fun hc28 => ?_) (fun hc28 => ?_)
            · -- FTTTTT
              refine VO.gy rfl ⟨_, rfl, rfl⟩ (.mv rfl) ?_
              refine VO.gy rfl ⟨_, rfl, rfl⟩ (.mv rfl) ?_
              refine VO.gy rfl ⟨_, rfl, rfl⟩ (.mv rfl) ?_
              refine VO.gbsl (cs := [Value.slice A7_0 (((bAppend d0 d1).1).length) (c7_0), Value.slice A11_0 (((bAppend d0 d1).1).length) (c11_0), Value.slice A3_0 ((d0 ++ spareB).length) (c3_0)]) 130 rfl ⟨_, rfl, rfl⟩ rfl tsl39 tz23 rfl rfl (fun g29 => ?_)
              refine VO.gather (l := [mone g29 (.cells [Value.slice A7_0 (((bAppend d0 d1).1).length) (c7_0), Value.slice A11_0 (((bAppend d0 d1).1).length) (c11_0), Value.slice A3_0 ((d0 ++ spareB).length) (c3_0)].toArray 23 (0, 0)), m7, m11, m3]) 133 [130, 107, 111, 103] rfl (fun hg32 => ?_)
              have ho32 : Ow (.sl (.sl .byte)) (muns [mone g29 (.cells [Value.slice A7_0 (((bAppend d0 d1).1).length) (c7_0), Value.slice A11_0 (((bAppend d0 d1).1).length) (c11_0), Value.slice A3_0 ((d0 ++ spareB).length) (c3_0)].toArray 23 (0, 0)), m7, m11, m3]) [Value.slice (some ⟨g29, 0, none⟩) (3) (3)] [(bAppend d0 d1).1, (bAppend d0 d1).1, d0 ++ spareB] := Ow.lit 3 (Seps.grp1 (ls := [[m7], [m11], [m3]]) hg32) (OwAs.cons (m := muns [m7]) (c1 := [Value.slice A7_0 (((bAppend d0 d1).1).length) (c7_0)]) (Ow.up (OwnL.ow (Ow.ownl f7_0 rfl mnil) rfl) ((Seps.self hg32 (List.Sublist.cons _ (List.Sublist.cons_cons _ (List.Sublist.cons _ (List.Sublist.cons _ List.Sublist.slnil))))).1 _ (.head _))) (OwAs.cons (m := muns [m11]) (c1 := [Value.slice A11_0 (((bAppend d0 d1).1).length) (c11_0)]) (Ow.up (OwnL.ow (Ow.ownl f11_0 rfl mnil) rfl) ((Seps.self hg32 (List.Sublist.cons _ (List.Sublist.cons _ (List.Sublist.cons_cons _ (List.Sublist.cons _ List.Sublist.slnil))))).1 _ (.head _))) (OwAs.cons (m := muns [m3]) (c1 := [Value.slice A3_0 ((d0 ++ spareB).length) (c3_0)]) (Ow.up (OwnL.ow (Ow.ownl f3_0 rfl mnil) rfl) ((Seps.self hg32 (List.Sublist.cons _ (List.Sublist.cons _ (List.Sublist.cons _ (List.Sublist.cons_cons _ List.Sublist.slnil))))).1 _ (.head _))) OwAs.nil))) rfl rfl
              refine VO.gcall 133 rfl ⟨_, rfl, rfl⟩ fnOk36 rfl rfl (fun W hW => ApartBytes_ok W (hW.at (i := 133) rfl) ho32 bd (by exact three_lists (by omega))) (fun v31 m31 hv31 => ?_)
              subst hv31
              refine VO.y rfl (.pT rfl rfl) ?_
              refine VO.as ?_
              refine VO.inv [(113, _), (104, _), (0, _)] (fun _ h => h.sub [113, 104, 0]) ?_
              refine VO.k11 0 1 4 5 6 7 8 9 11 12 15 ?_
              refine VC.ret ?_
              refine ⟨_, _, res_run (rs := [.tmp 4]) rfl (.tmp rfl .nil), fun W_ hI => out_of (l := []) hI [] rfl rfl (mle_refl _) (fun hS_ => ?_)⟩
              dsimp only [packV]
              all_goals (first | rfl | (rfl))
            · -- FTTTTF
              exact absurd rfl hc28
          · -- FTTTF
            exact absurd rfl hc26
        · -- FTTF
          exact absurd rfl hc24
      · -- FTF
        exact absurd rfl hc22
    · -- FF
      exact absurd rfl hc21
end
section
set_option linter.unusedVariables false
set_option maxRecDepth 4000
open Go.ChangeShapes Go.WideShapes Go.ChangeAt Go.RowKit
theorem batchCalls_ok0 : tyOk Try.prog 60 (.sl .byte) (.inl 23) = true := by kernel_rfl
theorem batchCalls_ok1 : tyOk Try.prog 60 (.sl TOp) (.inl 22) = true := by kernel_rfl
set_option maxRecDepth 100000 in
theorem batchCalls_lifted (os : Os) (started : os.Started) (H : Type) (enc : TypeId × Value → H) :
    ReturnsInHanded {} Try.checked os 4 .any (Rows.batchCallsSpec.pre6 enc Try.prog Try.f4 Rows.batchCallsRow.domain false) (Rows.batchCallsSpec.post enc Try.prog Try.f4 false true false false) := by
  refine returnsInHanded_of_change_sized (C := Try.checked) (by kernel_rfl) started (by kernel_rfl) Try.func4
    (ChangeSpec.witness6 (enc := enc) (C := Try.checked) false ⟨#[], #[.slice none 0 0, .slice none 0 0], []⟩ 8 (by kernel_rfl) (by kernel_rfl) (by kernel_rfl) (by kernel_rfl)) ?_
  intro W base args ds gs before hval0 hW hcnd hsz0 _
  have hsz : (DataW.weightsEach Try.prog (Try.f4.params.toList ++ Rows.batchCallsSpec.plain.varTypes Try.prog) (ds ++ gs)).all (· ≤ reachBytes) = true := hsz0
  have hval : ∀ (j : Nat) t v, Try.f4.params[j]? = some t → args[j]? = some v → Value.okWide Try.prog W .any base t v := hval0
  have hW' := hW
  obtain ⟨p, q, hA0, hV, rfl, hfz, hnd⟩ := hW
  have hA : DataW.TrodAll enc Try.prog W 0 (fun _ => true) true Try.f4.params.toList args.toList ds p := hA0
  rw [Try.params4] at hA hval hsz
  clear hA0 hval0
  obtain ⟨args⟩ := args
  obtain ⟨v0, r0, d0, e0, p0, q0, ha0, rfl, rfl, h0, hA0⟩ := trodAll_cons hA
  simp only at ha0; subst ha0
  obtain ⟨v1, r1, d1, e1, p1, q1, ha1, rfl, rfl, h1, hA1⟩ := trodAll_cons hA0
  subst ha1
  obtain ⟨rfl, rfl, rfl⟩ := trodAll_nil hA1
  obtain ⟨x0, hx0⟩ := arg_sl 60 batchCalls_ok0 Try.underlying23 (hval 0 23 v0 rfl rfl) h0
  obtain ⟨x1, hx1⟩ := arg_sl 60 batchCalls_ok1 Try.underlying22 (hval 1 22 v1 rfl rfl) h1
  have lim0 := arg_lim hsz (j := 0) rfl rfl Try.underlying23 (b := 1) (by kernel_rfl) h0 hx0
  refine (calls_of (batchCalls_ok W hx0 hx1 (by omega))).mono fun e W' ⟨he, hg⟩ => ?_
  subst he
  exact ⟨_, rfl, law_post hW' hg laidOut_ok (by kernel_rfl) rfl Try.underlying4 rfl rfl rfl rfl⟩
theorem batchCalls_joined : joinedFacts Try.prog 4 Try.f4 Rows.batchCallsSpec Rows.batchCallsRow = true := by
  unfold joinedFacts
  rw [laidOut_ok, mapsRowed_ok, stopsHeard_ok, mayEnter_ok, lifts_ok, make_ok]
  kernel_rfl
theorem batchCalls_proved : Rows.BatchCallsSaid :=
  OpenClaim.holds_of_wide 4 Try.f4 rfl rfl rfl rfl rfl rfl rfl ⟨rfl, rfl, rfl, rfl, rfl⟩ rfl rfl rfl rfl rfl (by kernel_rfl) Try.func4 batchCalls_joined
    (of_decide_eq_true (by kernel_rfl)) (by unfold Func.isWrapper; first | (rw [if_pos (by decide +kernel)]; kernel_rfl) | (rw [if_neg (by decide +kernel)]; exact ⟨rfl, rfl⟩))
    (fun os started H enc _ => batchCalls_lifted os started H enc)
#print axioms batchCalls_proved
end
end Go.Proofs.Ytfaknkkaegjdaaa
