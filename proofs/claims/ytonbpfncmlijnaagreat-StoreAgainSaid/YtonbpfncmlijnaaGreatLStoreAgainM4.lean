/- Part 4 of the proof of LStoreAgain: what it needs of the library, the walks and the plain laws. Conditions: those named in each theorem. -/
import Derived.Test.YtonbpfncmlijnaaGreatLStoreAgainM3
set_option linter.unusedVariables false
set_option linter.unusedSimpArgs false
set_option maxRecDepth 4000
namespace Go.Proofs.YtonbpfncmlijnaaGreat
theorem fnOk131 : fnOk Tryz.prog 131 = true := by kernel_rfl
theorem tar98 : tar Tryz.prog 98 = some (4, 1) := by kernel_rfl
theorem tk148 : tk Tryz.prog 148 = some (some 4) := by kernel_rfl
theorem tk99 : tk Tryz.prog 99 = some none := by kernel_rfl
theorem tsl99 : tsl Tryz.prog 99 = some (148, 4, 48) := by kernel_rfl
theorem tz148 : tz Tryz.prog 148 = some [.int .i64 0, .int .i64 0, .slice none 0 0, .int .i64 0] := by kernel_rfl
theorem dHeld_ok (W : World) {m0 : Mem} (hm : mle (m0) (wm W)) {g0 : Nat} {d0 : DdiskDisk} (h0 : Ow (.ptr TdiskDisk) m0 [.pointer (some ⟨g0, 0, none⟩)] (g0, d0)) (d1 : Int) (h1 : inK .i64 d1) (e0 : okD d0) (e1 : wD d0 ≤ 2*1000000000000) (e2 : inF d1) : CallR Tryz.prog 99 [.pointer (some ⟨g0, 0, none⟩), .int .i64 d1] W (m0) (fun v m' => ∃ (s0 : Value), ∃ (p0 : Mem), ∃ (p1 : Mem), v = s0 ∧ Seps m' [p0, p1] ∧ Ow (.sl .byte) p0 [s0] (heldB d0.2.2.2.2.2.1 d0.2.2.2.2.2.2 d1) ∧ Ow (.ptr TdiskDisk) p1 [.pointer (some ⟨g0, 0, none⟩)] (g0, d0)) := by
  obtain ⟨hg, hfu, hst⟩ := e0; simp only [wD, sizeQ] at e1; have hin := e2; simp only [inF] at hin
  have h1' := h1; simp only [inK] at h1'
  refine CallR.ofB (n := 33) hm Tryz.func99 rfl rfl rfl ?_
  refine VC.rs ?_
  refine VO.as ?_
  refine VO.k3 0 1 4 ?_
  refine VC.seqJ (G := (List UInt8) × (Option Addr) × Nat × Mem × Mem) (fun g => [(5, Value.slice (g.2.1) ((g.1).length) ((g.2.2.1))), (0, Value.pointer (some ⟨g0, 0, none⟩)), (1, Value.int .i64 (d1)), (4, Value.slice none (0) (0))]) (fun g => [(111, (g.2.2.2.2)), (110, (g.2.2.2.1)), (0, mout (wm W) (m0))]) (fun g => ((g.1) = heldB d0.2.2.2.2.2.1 (d0.2.2.2.2.2.2.take 0) d1) ∧ (OwnL .byte (g.2.2.2.1) mnil (.slice (g.2.1) (g.1).length (g.2.2.1)) (g.1)) ∧ (Ow (.ptr TdiskDisk) (g.2.2.2.2) [.pointer (some ⟨g0, 0, none⟩)] (g0, d0))) ?_ ?_
  · -- 0J
    rintro ⟨bj, bj_A, bj_c, bj_m, dd_m⟩ ⟨hbj, h_bj, h_dd⟩
    replace hbj : bj = heldB d0.2.2.2.2.2.1 (d0.2.2.2.2.2.2.take 0) d1 := hbj
    replace h_bj : OwnL .byte bj_m mnil (.slice bj_A bj.length bj_c) bj := h_bj
    replace h_dd : Ow (.ptr TdiskDisk) dd_m [.pointer (some ⟨g0, 0, none⟩)] (g0, d0) := h_dd
    show VC _ _ _ _ _ [(5, Value.slice bj_A (bj.length) (bj_c)), (0, Value.pointer (some ⟨g0, 0, none⟩)), (1, Value.int .i64 (d1)), (4, Value.slice none (0) (0))] [(111, dd_m), (110, bj_m), (0, mout (wm W) (m0))]
    have l_bj : bj.length ≤ bj_c := by obtain ⟨_, _, he, hl, _⟩ := h_bj.slice; simp only [Value.slice.injEq] at he; omega
    have k_bj : bj_c ≤ 9223372036854775807 := by obtain ⟨_, _, he, _, hl⟩ := h_bj.slice; simp only [Value.slice.injEq, maxLen] at he hl; omega
    refine VC.seq ?_
    refine VC.rs ?_
    refine VO.mv ?_
    refine VO.y rfl (.nilp rfl) ?_
    refine VO.y rfl (.fa rfl tst101 rfl) ?_
    obtain ⟨q12_E, q12_A5, q12_c5, q12_A6, q12_c6, q12_A7, q12_c7, q12_A8, q12_c8, q12_A9, q12_c9, q12_n5, q12_n6, q12_n7, q12_n8, q12_n9, _, q12_S, q12_3, q12_4, q12_5, q12_6, q12_7, q12_8, q12_9⟩ := openP_diskDisk (x0 := d0.1) (x1 := d0.2.1) (x2 := d0.2.2.1) (x3 := d0.2.2.2.1) (x4 := d0.2.2.2.2.1) (x5 := d0.2.2.2.2.2.1.1) (x6 := d0.2.2.2.2.2.1.2.1) (x7 := d0.2.2.2.2.2.1.2.2.1) (x8 := d0.2.2.2.2.2.1.2.2.2) (x9 := d0.2.2.2.2.2.2) h_dd
    simp only [inK] at q12_3
    simp only [inK] at q12_4
    have q12_r5 := q12_5.rm
    have q12_r6 := q12_6.rm
    have q12_r7 := q12_7.rm
    have q12_r8 := q12_8.rm
    have q12_r9 := q12_9.rm
    refine VO.inv _ (fun _ h => h.parts (i := 111) rfl q12_S [118, 113, 114, 115, 116, 117]) ?_
    refine VO.y rfl (.ld1 118 rfl tk99 rfl (cellsAt_one rfl rfl)) ?_
    refine VO.y rfl (.lenS rfl tsl99) ?_
    refine VO.mv ?_
    refine VO.kp [118, 113, 114, 115, 116, 117, 110, 0] [(118, mone g0 (.cells [Value.bool d0.1, Value.bool d0.2.1, Value.bool d0.2.2.1, Value.int .i64 (d0.2.2.2.1), Value.int .i64 (d0.2.2.2.2.1), Value.slice q12_A5 (d0.2.2.2.2.2.1.1.length) (q12_c5), Value.slice q12_A6 (d0.2.2.2.2.2.1.2.1.length) (q12_c6), Value.slice q12_A7 (d0.2.2.2.2.2.1.2.2.1.length) (q12_c7), Value.slice q12_A8 (d0.2.2.2.2.2.1.2.2.2.length) (q12_c8), Value.slice q12_A9 (d0.2.2.2.2.2.2.length) (q12_c9)].toArray q12_E (0, 0))), (113, q12_n5), (114, q12_n6), (115, q12_n7), (116, q12_n8), (117, q12_n9), (110, bj_m), (0, mout (wm W) (m0))] ?_
    refine VO.k7 0 1 4 5 18 19 20 ?_
    refine VC.block ?_
    refine VC.loop (G := Nat × (List UInt8) × (Option Addr) × Nat × Mem) (fun g => [(5, Value.slice (g.2.2.1) ((g.2.1).length) ((g.2.2.2.1))), (20, Value.int .i64 ((((g.1) : Nat) : Int))), (0, Value.pointer (some ⟨g0, 0, none⟩)), (1, Value.int .i64 (d1)), (4, Value.slice none (0) (0)), (18, Value.slice q12_A9 (d0.2.2.2.2.2.2.length) (q12_c9)), (19, Value.int .i64 (((d0.2.2.2.2.2.2.length : Nat) : Int)))]) (fun g => [(118, mone g0 (.cells [Value.bool d0.1, Value.bool d0.2.1, Value.bool d0.2.2.1, Value.int .i64 (d0.2.2.2.1), Value.int .i64 (d0.2.2.2.2.1), Value.slice q12_A5 (d0.2.2.2.2.2.1.1.length) (q12_c5), Value.slice q12_A6 (d0.2.2.2.2.2.1.2.1.length) (q12_c6), Value.slice q12_A7 (d0.2.2.2.2.2.1.2.2.1.length) (q12_c7), Value.slice q12_A8 (d0.2.2.2.2.2.1.2.2.2.length) (q12_c8), Value.slice q12_A9 (d0.2.2.2.2.2.2.length) (q12_c9)].toArray q12_E (0, 0))), (113, q12_n5), (114, q12_n6), (115, q12_n7), (116, q12_n8), (117, q12_n9), (110, (g.2.2.2.2)), (0, mout (wm W) (m0))]) (fun g => ((g.1) ≤ d0.2.2.2.2.2.2.length) ∧ ((g.2.1) = heldB d0.2.2.2.2.2.1 (d0.2.2.2.2.2.2.take (g.1)) d1) ∧ (OwnL .byte (g.2.2.2.2) mnil (.slice (g.2.2.1) (g.2.1).length (g.2.2.2.1)) (g.2.1))) (fun g => d0.2.2.2.2.2.2.length - (g.1)) (0, bj, bj_A, bj_c, bj_m) (⟨by omega, by exact hbj, h_bj⟩) ⟨⟨rfl, rfl, rfl, rfl, rfl, rfl, rfl, trivial⟩, fun _ h => h.sub [118, 113, 114, 115, 116, 117, 110, 0]⟩ ?_
    rintro ⟨k, b, b_A, b_c, b_m⟩ ⟨hk, hb, h_b⟩
    replace hk : k ≤ d0.2.2.2.2.2.2.length := hk
    replace hb : b = heldB d0.2.2.2.2.2.1 (d0.2.2.2.2.2.2.take k) d1 := hb
    replace h_b : OwnL .byte b_m mnil (.slice b_A b.length b_c) b := h_b
    show VC _ _ _ _ _ [(5, Value.slice b_A (b.length) (b_c)), (20, Value.int .i64 (((k : Nat) : Int))), (0, Value.pointer (some ⟨g0, 0, none⟩)), (1, Value.int .i64 (d1)), (4, Value.slice none (0) (0)), (18, Value.slice q12_A9 (d0.2.2.2.2.2.2.length) (q12_c9)), (19, Value.int .i64 (((d0.2.2.2.2.2.2.length : Nat) : Int)))] [(118, mone g0 (.cells [Value.bool d0.1, Value.bool d0.2.1, Value.bool d0.2.2.1, Value.int .i64 (d0.2.2.2.1), Value.int .i64 (d0.2.2.2.2.1), Value.slice q12_A5 (d0.2.2.2.2.2.1.1.length) (q12_c5), Value.slice q12_A6 (d0.2.2.2.2.2.1.2.1.length) (q12_c6), Value.slice q12_A7 (d0.2.2.2.2.2.1.2.2.1.length) (q12_c7), Value.slice q12_A8 (d0.2.2.2.2.2.1.2.2.2.length) (q12_c8), Value.slice q12_A9 (d0.2.2.2.2.2.2.length) (q12_c9)].toArray q12_E (0, 0))), (113, q12_n5), (114, q12_n6), (115, q12_n7), (116, q12_n8), (117, q12_n9), (110, b_m), (0, mout (wm W) (m0))]
    have l_b : b.length ≤ b_c := by obtain ⟨_, _, he, hl, _⟩ := h_b.slice; simp only [Value.slice.injEq] at he; omega
    have k_b : b_c ≤ 9223372036854775807 := by obtain ⟨_, _, he, _, hl⟩ := h_b.slice; simp only [Value.slice.injEq, maxLen] at he hl; omega
    refine VC.rs ?_
    refine VO.y rfl (.lss rfl rfl) ?_
    refine VO.k8 0 1 4 5 18 19 20 21 ?_
    refine VC.seq ?_
    refine VC.cond rfl (fun hc19 => ?_) (fun hc19 => ?_)
    · -- 0JT
      refine VC.skip ?_
      refine outN ?_
      refine VC.seq ?_
      refine VC.block ?_
      refine VC.rs ?_
      obtain ⟨x20, hx20⟩ : ∃ z_, (d0.2.2.2.2.2.2)[k]? = some z_ := ⟨_, List.getElem?_eq_getElem bd⟩
      obtain ⟨gg20, oo20, ec20, ea20, hce20, hre20⟩ := (Ow.rd q12_9 (mle_refl _)).elem hx20
      cases ea20
      obtain ⟨q20_A2, q20_c2, rfl, q20_0, q20_1, q20_2, q20_3⟩ := open_diskstep (x0 := x20.1) (x1 := x20.2.1) (x2 := x20.2.2.1) (x3 := x20.2.2.2) hre20
      simp only [inK] at q20_0
      simp only [inK] at q20_1
      have q20_r2 := Rd.room q20_2
      simp only [inK] at q20_3
      refine VO.y rfl (.ixI k rfl rfl tsl99 rfl bd) ?_
      refine VO.y rfl (.ldA 117 rfl tk148 rfl hce20) ?_
      refine VO.alloc 122 rfl tz148 (fun g21 => ?_)
      refine VO.store (k := 4) (c' := [Value.int .i64 (x20.1), Value.int .i64 (x20.2.1), Value.slice q20_A2 (x20.2.2.1.length) (q20_c2), Value.int .i64 (x20.2.2.2)]) 122 rfl rfl (.inl tk148) rfl rfl rfl rfl rfl ?_
      refine VO.k9 0 1 4 5 7 18 19 20 21 ?_
      refine VC.rs ?_
      refine VO.y rfl (.fa rfl tst148 rfl) ?_
      refine VO.y rfl (.ld1 122 rfl tk3 rfl (cellsAt_one rfl rfl)) ?_
      refine VO.mv ?_
      refine VO.y rfl (.eql rfl rfl) ?_
      refine VO.kp [122, 118, 113, 114, 115, 116, 117, 110, 0] [(122, mone g21 (.cells [Value.int .i64 (x20.1), Value.int .i64 (x20.2.1), Value.slice q20_A2 (x20.2.2.1.length) (q20_c2), Value.int .i64 (x20.2.2.2)].toArray 148 (0, 0))), (118, mone g0 (.cells [Value.bool d0.1, Value.bool d0.2.1, Value.bool d0.2.2.1, Value.int .i64 (d0.2.2.2.1), Value.int .i64 (d0.2.2.2.2.1), Value.slice q12_A5 (d0.2.2.2.2.2.1.1.length) (q12_c5), Value.slice q12_A6 (d0.2.2.2.2.2.1.2.1.length) (q12_c6), Value.slice q12_A7 (d0.2.2.2.2.2.1.2.2.1.length) (q12_c7), Value.slice q12_A8 (d0.2.2.2.2.2.1.2.2.2.length) (q12_c8), Value.slice (some ⟨gg20, oo20, none⟩) (d0.2.2.2.2.2.2.length) (q12_c9)].toArray q12_E (0, 0))), (113, q12_n5), (114, q12_n6), (115, q12_n7), (116, q12_n8), (117, q12_n9), (110, b_m), (0, mout (wm W) (m0))] ?_
      refine VO.k10 0 1 4 5 7 18 19 20 21 27 ?_
      refine VC.cond rfl (fun hc23 => ?_) (fun hc23 => ?_)
      · -- 0JTT
        refine VC.reg ?_
        refine VO.mv ?_
        refine VO.y rfl (.ldA 122 rfl tk148 rfl (cellsAt_one rfl rfl)) ?_
        refine VO.call 110 rfl fnOk131 rfl rfl (fun W hW => dDone_ok W (hW.at (i := 110) rfl) (OwnL.ow h_b rfl) (Rd.mono hre20 (hW.out (i := 110) (j := 117) rfl rfl)) (by exact held_cut hg hb ‹d0.2.2.2.2.2.2[k]? = some _› e2 ‹_ = d1›) (by (have h_ := held_room hb ‹d0.2.2.2.2.2.2[k]? = some _›; simp only [sizeQ] at h_; omega))) (fun v24 m24 hv24 => ?_)
        obtain ⟨s24_0, rfl, f24_0⟩ := hv24
        obtain ⟨A24_0, c24_0, eq24_0, l24_0, k24_0⟩ := f24_0.slice
        subst eq24_0
        simp only [maxLen] at k24_0
        refine VO.as ?_
        refine VO.k10 0 1 4 5 7 18 19 20 21 27 ?_
        refine outBN ?_
        refine outN ?_
        refine VC.reg ?_
        refine VO.y rfl (.add (c := ((k + 1 : Nat) : Int)) rfl rfl (by omega) ⟨bd, bd⟩) ?_
        refine VO.mv ?_
        refine VO.k10 0 1 4 5 7 18 19 20 21 27 ?_
        exact outN ⟨⟨k + 1, doneB b x20, A24_0, c24_0, m24⟩, ⟨by omega, by first | exact held_yes hb ‹d0.2.2.2.2.2.2[k]? = some _› ‹_ = d1› | exact held_no hb ‹d0.2.2.2.2.2.2[k]? = some _› ‹¬ _ = d1›, (Ow.ownl f24_0 rfl mnil)⟩, bd, ⟨⟨rfl, rfl, rfl, rfl, rfl, rfl, rfl, trivial⟩, fun _ h => Inv.sub h [118, 113, 114, 115, 116, 117, 110, 0]⟩⟩
      · -- 0JTF
        refine VC.skip ?_
        refine outBN ?_
        refine outN ?_
        refine VC.reg ?_
        refine VO.y rfl (.add (c := ((k + 1 : Nat) : Int)) rfl rfl (by omega) ⟨bd, bd⟩) ?_
        refine VO.mv ?_
        refine VO.k10 0 1 4 5 7 18 19 20 21 27 ?_
        exact outN ⟨⟨k + 1, b, b_A, b_c, b_m⟩, ⟨by omega, by first | exact held_yes hb ‹d0.2.2.2.2.2.2[k]? = some _› ‹_ = d1› | exact held_no hb ‹d0.2.2.2.2.2.2[k]? = some _› ‹¬ _ = d1›, h_b⟩, bd, ⟨⟨rfl, rfl, rfl, rfl, rfl, rfl, rfl, trivial⟩, fun _ h => Inv.sub h [118, 113, 114, 115, 116, 117, 110, 0]⟩⟩
    · -- 0JF
      refine VC.exit ?_
      refine outE ?_
      refine outE ?_
      refine outBB ?_
      refine outN ?_
      refine VC.rs ?_
      refine VO.mv ?_
      refine VO.as ?_
      refine VO.k8 0 1 4 5 18 19 20 21 ?_
      refine VC.ret ?_
      refine ⟨_, _, res_run (rs := [.tmp 4]) rfl (.tmp rfl .nil), fun W_ hI => out_of (l := [b_m, mone g0 (.cells [Value.bool d0.1, Value.bool d0.2.1, Value.bool d0.2.2.1, Value.int .i64 (d0.2.2.2.1), Value.int .i64 (d0.2.2.2.2.1), Value.slice q12_A5 (d0.2.2.2.2.2.1.1.length) (q12_c5), Value.slice q12_A6 (d0.2.2.2.2.2.1.2.1.length) (q12_c6), Value.slice q12_A7 (d0.2.2.2.2.2.1.2.2.1.length) (q12_c7), Value.slice q12_A8 (d0.2.2.2.2.2.1.2.2.2.length) (q12_c8), Value.slice q12_A9 (d0.2.2.2.2.2.2.length) (q12_c9)].toArray q12_E (0, 0)), q12_n5, q12_n6, q12_n7, q12_n8, q12_n9]) hI [110, 118, 113, 114, 115, 116, 117] rfl rfl (mle_refl _) (fun hS_ => ?_)⟩
      dsimp only [packV]
      have he0 : (heldB d0.2.2.2.2.2.1 d0.2.2.2.2.2.2 d1 : Ty.Den (.sl .byte)) = b := by first | rfl | (rw [hb, List.take_of_length_le (by omega)])
      have hm0_ : (d0 : DdiskDisk) = d0 := by first | rfl | (rw [hb, List.take_of_length_le (by omega)])
      refine ⟨Value.slice b_A (b.length) (b_c), muns [b_m], muns [mone g0 (.cells [Value.bool d0.1, Value.bool d0.2.1, Value.bool d0.2.2.1, Value.int .i64 (d0.2.2.2.1), Value.int .i64 (d0.2.2.2.2.1), Value.slice q12_A5 (d0.2.2.2.2.2.1.1.length) (q12_c5), Value.slice q12_A6 (d0.2.2.2.2.2.1.2.1.length) (q12_c6), Value.slice q12_A7 (d0.2.2.2.2.2.1.2.2.1.length) (q12_c7), Value.slice q12_A8 (d0.2.2.2.2.2.1.2.2.2.length) (q12_c8), Value.slice q12_A9 (d0.2.2.2.2.2.2.length) (q12_c9)].toArray q12_E (0, 0)), q12_n5, q12_n6, q12_n7, q12_n8, q12_n9], ?_, ?_, ?_, ?_⟩
      rotate_left
      · exact Seps.grp (ls := [[b_m], [mone g0 (.cells [Value.bool d0.1, Value.bool d0.2.1, Value.bool d0.2.2.1, Value.int .i64 (d0.2.2.2.1), Value.int .i64 (d0.2.2.2.2.1), Value.slice q12_A5 (d0.2.2.2.2.2.1.1.length) (q12_c5), Value.slice q12_A6 (d0.2.2.2.2.2.1.2.1.length) (q12_c6), Value.slice q12_A7 (d0.2.2.2.2.2.1.2.2.1.length) (q12_c7), Value.slice q12_A8 (d0.2.2.2.2.2.1.2.2.2.length) (q12_c8), Value.slice q12_A9 (d0.2.2.2.2.2.2.length) (q12_c9)].toArray q12_E (0, 0)), q12_n5, q12_n6, q12_n7, q12_n8, q12_n9]]) hS_
      · rw [he0]; exact (Ow.up (OwnL.ow h_b rfl) ((Seps.self hS_ (List.Sublist.cons_cons _ (List.Sublist.cons _ (List.Sublist.cons _ (List.Sublist.cons _ (List.Sublist.cons _ (List.Sublist.cons _ (List.Sublist.cons _ List.Sublist.slnil)))))))).1 _ (.head _)))
      · rw [hm0_]; exact (show Ow (.ptr TdiskDisk) _ _ (_, d0) from (mkP_diskDisk d0.1 d0.2.1 d0.2.2.1 d0.2.2.2.1 d0.2.2.2.2.1 d0.2.2.2.2.2.1.1 d0.2.2.2.2.2.1.2.1 d0.2.2.2.2.2.1.2.2.1 d0.2.2.2.2.2.1.2.2.2 d0.2.2.2.2.2.2 (Seps.self hS_ (List.Sublist.cons _ (List.Sublist.cons_cons _ (List.Sublist.cons_cons _ (List.Sublist.cons_cons _ (List.Sublist.cons_cons _ (List.Sublist.cons_cons _ (List.Sublist.cons_cons _ List.Sublist.slnil)))))))) bdk bdk (OwnL.ow (Ow.ownl q12_5 rfl mnil) rfl) (OwnL.ow (Ow.ownl q12_6 rfl mnil) rfl) (OwnL.ow (Ow.ownl q12_7 rfl mnil) rfl) (OwnL.ow (Ow.ownl q12_8 rfl mnil) rfl) q12_9))
      all_goals (first | rfl | (simp [*]; done))
  · -- A
    intro hJ1
    refine VC.reg ?_
    refine VO.mv ?_
    refine VO.mv ?_
    refine VO.y rfl (.nilp rfl) ?_
    refine VO.y rfl (.fa rfl tst101 rfl) ?_
    rcases (show d1 = (0 : Int) ∨ d1 = (1 : Int) ∨ d1 = (2 : Int) ∨ d1 = (3 : Int) from by first | omega | (simp only [List.length_append, List.length_nil, List.length_cons, List.length_take, List.length_drop] at *; omega)) with hi25 | hi25 | hi25 | hi25
    · -- A0
      refine VO.y rfl (.ixa (i := 0) (o := 5) rfl rfl tar98 hi25 rfl rfl) ?_
      obtain ⟨q26_E, q26_A5, q26_c5, q26_A6, q26_c6, q26_A7, q26_c7, q26_A8, q26_c8, q26_A9, q26_c9, q26_n5, q26_n6, q26_n7, q26_n8, q26_n9, _, q26_S, q26_3, q26_4, q26_5, q26_6, q26_7, q26_8, q26_9⟩ := openP_diskDisk (x0 := d0.1) (x1 := d0.2.1) (x2 := d0.2.2.1) (x3 := d0.2.2.2.1) (x4 := d0.2.2.2.2.1) (x5 := d0.2.2.2.2.2.1.1) (x6 := d0.2.2.2.2.2.1.2.1) (x7 := d0.2.2.2.2.2.1.2.2.1) (x8 := d0.2.2.2.2.2.1.2.2.2) (x9 := d0.2.2.2.2.2.2) h0
      simp only [inK] at q26_3
      simp only [inK] at q26_4
      have q26_r5 := q26_5.rm
      have q26_r6 := q26_6.rm
      have q26_r7 := q26_7.rm
      have q26_r8 := q26_8.rm
      have q26_r9 := q26_9.rm
      refine VO.inv _ (fun _ h => h.parts (i := 1) rfl q26_S [132, 127, 128, 129, 130, 131]) ?_
      refine VO.y rfl (.ld1 132 rfl tk97 rfl (cellsAt_one rfl rfl)) ?_
      refine VO.inv _ (fun _ h => h.nilc 134) ?_
      obtain ⟨mo33, cs33, hM33, hA33, hC33⟩ := (OwnL.nil .byte mnil mnil)
      obtain ⟨all33, hS33, hR33⟩ := Rd.srcI (P := Tryz.prog) ((OwnL.rd (Ow.ownl q26_5 rfl mnil) (mle_refl _) (mle_nil _))) Tryz.underlying97
      refine VO.app 134 rfl rfl rfl tsl97 tz5 rfl rfl hM33 hA33 (hS33 _ 127 rfl) hR33.nice bdm bd (by decide) (fun v33 m33 hN33 => ?_)
      have ho33 : OwnL .byte m33 mnil v33 (d0.2.2.2.2.2.1.1) := OwnL.more hC33 hN33 (All2c.mono hR33 fun _ _ h => Rd.flat rfl h _)
      obtain ⟨A33, c33, rfl, l33, k33⟩ := ho33.slice
      simp only [maxLen] at k33
      refine VO.as ?_
      refine VO.clsP 135 [132, 127, 128, 129, 130, 131] rfl (fun hg35 => (show Ow (.ptr TdiskDisk) _ _ (_, d0) from (mkP_diskDisk d0.1 d0.2.1 d0.2.2.1 d0.2.2.2.1 d0.2.2.2.2.1 d0.2.2.2.2.2.1.1 d0.2.2.2.2.2.1.2.1 d0.2.2.2.2.2.1.2.2.1 d0.2.2.2.2.2.1.2.2.2 d0.2.2.2.2.2.2 hg35 bdk bdk (OwnL.ow (Ow.ownl q26_5 rfl mnil) rfl) (OwnL.ow (Ow.ownl q26_6 rfl mnil) rfl) (OwnL.ow (Ow.ownl q26_7 rfl mnil) rfl) (OwnL.ow (Ow.ownl q26_8 rfl mnil) rfl) q26_9))) (fun mc35 ho35 => ?_)
      refine VO.k4 0 1 4 5 ?_
      exact outN (hJ1 ⟨d0.2.2.2.2.2.1.1, A33, c33, m33, mc35⟩ _ _ ⟨by first | exact (getF0 ‹d1 = (0 : Int)›).symm | exact (getF1 ‹d1 = (1 : Int)›).symm | exact (getF2 ‹d1 = (2 : Int)›).symm | exact (getF3 ‹d1 = (3 : Int)›).symm, ho33, ho35⟩ ⟨⟨rfl, rfl, rfl, rfl, trivial⟩, fun _ h => Inv.sub (Inv.num (Inv.num h 134 110 rfl) 135 111 rfl) [111, 110, 0]⟩)
    · -- A1
      refine VO.y rfl (.ixa (i := 1) (o := 6) rfl rfl tar98 hi25 rfl rfl) ?_
      obtain ⟨q36_E, q36_A5, q36_c5, q36_A6, q36_c6, q36_A7, q36_c7, q36_A8, q36_c8, q36_A9, q36_c9, q36_n5, q36_n6, q36_n7, q36_n8, q36_n9, _, q36_S, q36_3, q36_4, q36_5, q36_6, q36_7, q36_8, q36_9⟩ := openP_diskDisk (x0 := d0.1) (x1 := d0.2.1) (x2 := d0.2.2.1) (x3 := d0.2.2.2.1) (x4 := d0.2.2.2.2.1) (x5 := d0.2.2.2.2.2.1.1) (x6 := d0.2.2.2.2.2.1.2.1) (x7 := d0.2.2.2.2.2.1.2.2.1) (x8 := d0.2.2.2.2.2.1.2.2.2) (x9 := d0.2.2.2.2.2.2) h0
      simp only [inK] at q36_3
      simp only [inK] at q36_4
      have q36_r5 := q36_5.rm
      have q36_r6 := q36_6.rm
      have q36_r7 := q36_7.rm
      have q36_r8 := q36_8.rm
      have q36_r9 := q36_9.rm
      refine VO.inv _ (fun _ h => h.parts (i := 1) rfl q36_S [142, 137, 138, 139, 140, 141]) ?_
      refine VO.y rfl (.ld1 142 rfl tk97 rfl (cellsAt_one rfl rfl)) ?_
      refine VO.inv _ (fun _ h => h.nilc 144) ?_
      obtain ⟨mo43, cs43, hM43, hA43, hC43⟩ := (OwnL.nil .byte mnil mnil)
      obtain ⟨all43, hS43, hR43⟩ := Rd.srcI (P := Tryz.prog) ((OwnL.rd (Ow.ownl q36_6 rfl mnil) (mle_refl _) (mle_nil _))) Tryz.underlying97
      refine VO.app 144 rfl rfl rfl tsl97 tz5 rfl rfl hM43 hA43 (hS43 _ 138 rfl) hR43.nice bdm bd (by decide) (fun v43 m43 hN43 => ?_)
      have ho43 : OwnL .byte m43 mnil v43 (d0.2.2.2.2.2.1.2.1) := OwnL.more hC43 hN43 (All2c.mono hR43 fun _ _ h => Rd.flat rfl h _)
      obtain ⟨A43, c43, rfl, l43, k43⟩ := ho43.slice
      simp only [maxLen] at k43
      refine VO.as ?_
      refine VO.clsP 145 [142, 137, 138, 139, 140, 141] rfl (fun hg45 => (show Ow (.ptr TdiskDisk) _ _ (_, d0) from (mkP_diskDisk d0.1 d0.2.1 d0.2.2.1 d0.2.2.2.1 d0.2.2.2.2.1 d0.2.2.2.2.2.1.1 d0.2.2.2.2.2.1.2.1 d0.2.2.2.2.2.1.2.2.1 d0.2.2.2.2.2.1.2.2.2 d0.2.2.2.2.2.2 hg45 bdk bdk (OwnL.ow (Ow.ownl q36_5 rfl mnil) rfl) (OwnL.ow (Ow.ownl q36_6 rfl mnil) rfl) (OwnL.ow (Ow.ownl q36_7 rfl mnil) rfl) (OwnL.ow (Ow.ownl q36_8 rfl mnil) rfl) q36_9))) (fun mc45 ho45 => ?_)
      refine VO.k4 0 1 4 5 ?_
      exact outN (hJ1 ⟨d0.2.2.2.2.2.1.2.1, A43, c43, m43, mc45⟩ _ _ ⟨by first | exact (getF0 ‹d1 = (0 : Int)›).symm | exact (getF1 ‹d1 = (1 : Int)›).symm | exact (getF2 ‹d1 = (2 : Int)›).symm | exact (getF3 ‹d1 = (3 : Int)›).symm, ho43, ho45⟩ ⟨⟨rfl, rfl, rfl, rfl, trivial⟩, fun _ h => Inv.sub (Inv.num (Inv.num h 144 110 rfl) 145 111 rfl) [111, 110, 0]⟩)
    · -- A2
      refine VO.y rfl (.ixa (i := 2) (o := 7) rfl rfl tar98 hi25 rfl rfl) ?_
      obtain ⟨q46_E, q46_A5, q46_c5, q46_A6, q46_c6, q46_A7, q46_c7, q46_A8, q46_c8, q46_A9, q46_c9, q46_n5, q46_n6, q46_n7, q46_n8, q46_n9, _, q46_S, q46_3, q46_4, q46_5, q46_6, q46_7, q46_8, q46_9⟩ := openP_diskDisk (x0 := d0.1) (x1 := d0.2.1) (x2 := d0.2.2.1) (x3 := d0.2.2.2.1) (x4 := d0.2.2.2.2.1) (x5 := d0.2.2.2.2.2.1.1) (x6 := d0.2.2.2.2.2.1.2.1) (x7 := d0.2.2.2.2.2.1.2.2.1) (x8 := d0.2.2.2.2.2.1.2.2.2) (x9 := d0.2.2.2.2.2.2) h0
      simp only [inK] at q46_3
      simp only [inK] at q46_4
      have q46_r5 := q46_5.rm
      have q46_r6 := q46_6.rm
      have q46_r7 := q46_7.rm
      have q46_r8 := q46_8.rm
      have q46_r9 := q46_9.rm
      refine VO.inv _ (fun _ h => h.parts (i := 1) rfl q46_S [152, 147, 148, 149, 150, 151]) ?_
      refine VO.y rfl (.ld1 152 rfl tk97 rfl (cellsAt_one rfl rfl)) ?_
      refine VO.inv _ (fun _ h => h.nilc 154) ?_
      obtain ⟨mo53, cs53, hM53, hA53, hC53⟩ := (OwnL.nil .byte mnil mnil)
      obtain ⟨all53, hS53, hR53⟩ := Rd.srcI (P := Tryz.prog) ((OwnL.rd (Ow.ownl q46_7 rfl mnil) (mle_refl _) (mle_nil _))) Tryz.underlying97
      refine VO.app 154 rfl rfl rfl tsl97 tz5 rfl rfl hM53 hA53 (hS53 _ 149 rfl) hR53.nice bdm bd (by decide) (fun v53 m53 hN53 => ?_)
      have ho53 : OwnL .byte m53 mnil v53 (d0.2.2.2.2.2.1.2.2.1) := OwnL.more hC53 hN53 (All2c.mono hR53 fun _ _ h => Rd.flat rfl h _)
      obtain ⟨A53, c53, rfl, l53, k53⟩ := ho53.slice
      simp only [maxLen] at k53
      refine VO.as ?_
      refine VO.clsP 155 [152, 147, 148, 149, 150, 151] rfl (fun hg55 => (show Ow (.ptr TdiskDisk) _ _ (_, d0) from (mkP_diskDisk d0.1 d0.2.1 d0.2.2.1 d0.2.2.2.1 d0.2.2.2.2.1 d0.2.2.2.2.2.1.1 d0.2.2.2.2.2.1.2.1 d0.2.2.2.2.2.1.2.2.1 d0.2.2.2.2.2.1.2.2.2 d0.2.2.2.2.2.2 hg55 bdk bdk (OwnL.ow (Ow.ownl q46_5 rfl mnil) rfl) (OwnL.ow (Ow.ownl q46_6 rfl mnil) rfl) (OwnL.ow (Ow.ownl q46_7 rfl mnil) rfl) (OwnL.ow (Ow.ownl q46_8 rfl mnil) rfl) q46_9))) (fun mc55 ho55 => ?_)
      refine VO.k4 0 1 4 5 ?_
      exact outN (hJ1 ⟨d0.2.2.2.2.2.1.2.2.1, A53, c53, m53, mc55⟩ _ _ ⟨by first | exact (getF0 ‹d1 = (0 : Int)›).symm | exact (getF1 ‹d1 = (1 : Int)›).symm | exact (getF2 ‹d1 = (2 : Int)›).symm | exact (getF3 ‹d1 = (3 : Int)›).symm, ho53, ho55⟩ ⟨⟨rfl, rfl, rfl, rfl, trivial⟩, fun _ h => Inv.sub (Inv.num (Inv.num h 154 110 rfl) 155 111 rfl) [111, 110, 0]⟩)
    · -- A3
      refine VO.y rfl (.ixa (i := 3) (o := 8) rfl rfl tar98 hi25 rfl rfl) ?_
      obtain ⟨q56_E, q56_A5, q56_c5, q56_A6, q56_c6, q56_A7, q56_c7, q56_A8, q56_c8, q56_A9, q56_c9, q56_n5, q56_n6, q56_n7, q56_n8, q56_n9, _, q56_S, q56_3, q56_4, q56_5, q56_6, q56_7, q56_8, q56_9⟩ := openP_diskDisk (x0 := d0.1) (x1 := d0.2.1) (x2 := d0.2.2.1) (x3 := d0.2.2.2.1) (x4 := d0.2.2.2.2.1) (x5 := d0.2.2.2.2.2.1.1) (x6 := d0.2.2.2.2.2.1.2.1) (x7 := d0.2.2.2.2.2.1.2.2.1) (x8 := d0.2.2.2.2.2.1.2.2.2) (x9 := d0.2.2.2.2.2.2) h0
      simp only [inK] at q56_3
      simp only [inK] at q56_4
      have q56_r5 := q56_5.rm
      have q56_r6 := q56_6.rm
      have q56_r7 := q56_7.rm
      have q56_r8 := q56_8.rm
      have q56_r9 := q56_9.rm
      refine VO.inv _ (fun _ h => h.parts (i := 1) rfl q56_S [162, 157, 158, 159, 160, 161]) ?_
      refine VO.y rfl (.ld1 162 rfl tk97 rfl (cellsAt_one rfl rfl)) ?_
      refine VO.inv _ (fun _ h => h.nilc 164) ?_
      obtain ⟨mo63, cs63, hM63, hA63, hC63⟩ := (OwnL.nil .byte mnil mnil)
      obtain ⟨all63, hS63, hR63⟩ := Rd.srcI (P := Tryz.prog) ((OwnL.rd (Ow.ownl q56_8 rfl mnil) (mle_refl _) (mle_nil _))) Tryz.underlying97
      refine VO.app 164 rfl rfl rfl tsl97 tz5 rfl rfl hM63 hA63 (hS63 _ 160 rfl) hR63.nice bdm bd (by decide) (fun v63 m63 hN63 => ?_)
      have ho63 : OwnL .byte m63 mnil v63 (d0.2.2.2.2.2.1.2.2.2) := OwnL.more hC63 hN63 (All2c.mono hR63 fun _ _ h => Rd.flat rfl h _)
      obtain ⟨A63, c63, rfl, l63, k63⟩ := ho63.slice
      simp only [maxLen] at k63
      refine VO.as ?_
      refine VO.clsP 165 [162, 157, 158, 159, 160, 161] rfl (fun hg65 => (show Ow (.ptr TdiskDisk) _ _ (_, d0) from (mkP_diskDisk d0.1 d0.2.1 d0.2.2.1 d0.2.2.2.1 d0.2.2.2.2.1 d0.2.2.2.2.2.1.1 d0.2.2.2.2.2.1.2.1 d0.2.2.2.2.2.1.2.2.1 d0.2.2.2.2.2.1.2.2.2 d0.2.2.2.2.2.2 hg65 bdk bdk (OwnL.ow (Ow.ownl q56_5 rfl mnil) rfl) (OwnL.ow (Ow.ownl q56_6 rfl mnil) rfl) (OwnL.ow (Ow.ownl q56_7 rfl mnil) rfl) (OwnL.ow (Ow.ownl q56_8 rfl mnil) rfl) q56_9))) (fun mc65 ho65 => ?_)
      refine VO.k4 0 1 4 5 ?_
      exact outN (hJ1 ⟨d0.2.2.2.2.2.1.2.2.2, A63, c63, m63, mc65⟩ _ _ ⟨by first | exact (getF0 ‹d1 = (0 : Int)›).symm | exact (getF1 ‹d1 = (1 : Int)›).symm | exact (getF2 ‹d1 = (2 : Int)›).symm | exact (getF3 ‹d1 = (3 : Int)›).symm, ho63, ho65⟩ ⟨⟨rfl, rfl, rfl, rfl, trivial⟩, fun _ h => Inv.sub (Inv.num (Inv.num h 164 110 rfl) 165 111 rfl) [111, 110, 0]⟩)
theorem fin0_dSettle_ok {P : Prop} (h : P := by first | (have h_ := play_room hb (get_take ‹(d0.2.2.2.2.2.2.take d1.toNat)[k]? = some _›); rw [getF0 ‹_ = (0 : Int)›] at h_; simp only [sizeQ] at h_; omega) | (have h_ := play_room hb (get_take ‹(d0.2.2.2.2.2.2.take d1.toNat)[k]? = some _›); rw [getF1 ‹_ = (1 : Int)›] at h_; simp only [sizeQ] at h_; omega) | (have h_ := play_room hb (get_take ‹(d0.2.2.2.2.2.2.take d1.toNat)[k]? = some _›); rw [getF2 ‹_ = (2 : Int)›] at h_; simp only [sizeQ] at h_; omega) | (have h_ := play_room hb (get_take ‹(d0.2.2.2.2.2.2.take d1.toNat)[k]? = some _›); rw [getF3 ‹_ = (3 : Int)›] at h_; simp only [sizeQ] at h_; omega)) : P := h
theorem fin1_dSettle_ok {P : Prop} (h : P := by first | (have h_ := (play_cut hg hb (get_take ‹(d0.2.2.2.2.2.2.take d1.toNat)[k]? = some _›)).2; rw [getF0 ‹_ = (0 : Int)›] at h_; exact h_) | (have h_ := (play_cut hg hb (get_take ‹(d0.2.2.2.2.2.2.take d1.toNat)[k]? = some _›)).2; rw [getF1 ‹_ = (1 : Int)›] at h_; exact h_) | (have h_ := (play_cut hg hb (get_take ‹(d0.2.2.2.2.2.2.take d1.toNat)[k]? = some _›)).2; rw [getF2 ‹_ = (2 : Int)›] at h_; exact h_) | (have h_ := (play_cut hg hb (get_take ‹(d0.2.2.2.2.2.2.take d1.toNat)[k]? = some _›)).2; rw [getF3 ‹_ = (3 : Int)›] at h_; exact h_)) : P := h
theorem fin2_dSettle_ok {P : Prop} (h : P := by first | omega | (simp only [List.length_append, List.length_nil, List.length_cons, List.length_take, List.length_drop] at *; omega) | (have h_ := (play_cut hg hb (get_take ‹(d0.2.2.2.2.2.2.take d1.toNat)[k]? = some _›)).1; simp only [inF] at h_; omega)) : P := h
theorem dSettle_ok (W : World) {m0 : Mem} (hm : mle (m0) (wm W)) {g0 : Nat} {d0 : DdiskDisk} (h0 : Ow (.ptr TdiskDisk) m0 [.pointer (some ⟨g0, 0, none⟩)] (g0, d0)) (d1 : Int) (h1 : inK .i64 d1) (e0 : okD d0) (e1 : wD d0 ≤ 2*1000000000000) (e2 : 0 ≤ d1 ∧ d1 ≤ d0.2.2.2.2.2.2.length) : CallR Tryz.prog 103 [.pointer (some ⟨g0, 0, none⟩), .int .i64 d1] W (m0) (fun v m' => v = .tuple #[] ∧ Ow (.ptr TdiskDisk) m' [.pointer (some ⟨g0, 0, none⟩)] (g0, settleD d0 d1.toNat)) := by
  obtain ⟨hg, hfu, hst⟩ := e0; simp only [wD, sizeQ] at e1
  have h1' := h1; simp only [inK] at h1'
  refine CallR.ofB (n := 42) hm Tryz.func103 rfl rfl rfl ?_
  refine VC.seq ?_
  refine VC.rs ?_
  refine VO.mv ?_
  refine VO.y rfl (.nilp rfl) ?_
  refine VO.y rfl (.fa rfl tst101 rfl) ?_
  obtain ⟨q1_E, q1_A5, q1_c5, q1_A6, q1_c6, q1_A7, q1_c7, q1_A8, q1_c8, q1_A9, q1_c9, q1_n5, q1_n6, q1_n7, q1_n8, q1_n9, _, q1_S, q1_3, q1_4, q1_5, q1_6, q1_7, q1_8, q1_9⟩ := openP_diskDisk (x0 := d0.1) (x1 := d0.2.1) (x2 := d0.2.2.1) (x3 := d0.2.2.2.1) (x4 := d0.2.2.2.2.1) (x5 := d0.2.2.2.2.2.1.1) (x6 := d0.2.2.2.2.2.1.2.1) (x7 := d0.2.2.2.2.2.1.2.2.1) (x8 := d0.2.2.2.2.2.1.2.2.2) (x9 := d0.2.2.2.2.2.2) h0
  simp only [inK] at q1_3
  simp only [inK] at q1_4
  have q1_r5 := q1_5.rm
  have q1_r6 := q1_6.rm
  have q1_r7 := q1_7.rm
  have q1_r8 := q1_8.rm
  have q1_r9 := q1_9.rm
  refine VO.inv _ (fun _ h => h.parts (i := 1) rfl q1_S [107, 102, 103, 104, 105, 106]) ?_
  refine VO.y rfl (.ld1 107 rfl tk99 rfl (cellsAt_one rfl rfl)) ?_
  refine VO.mv ?_
  have hs8 := (Ow.rd q1_9 (mle_refl _)).pre (j := ((d1).toNat)) (by exact fin2_dSettle_ok)
  refine VO.y rfl (.slHI ((d1).toNat) rfl rfl tsl99 (by exact fin2_dSettle_ok) (by exact fin2_dSettle_ok)) ?_
  refine VO.y rfl (.lenS rfl tsl99) ?_
  refine VO.mv ?_
  refine VO.k5 0 1 11 12 13 ?_
  refine VC.block ?_
  refine VC.loop (G := Nat × (List UInt8) × (Option Addr) × Nat × Mem × (List UInt8) × (Option Addr) × Nat × Mem × (List UInt8) × (Option Addr) × Nat × Mem × (List UInt8) × (Option Addr) × Nat × Mem) (fun g => [(13, Value.int .i64 ((((g.1) : Nat) : Int))), (0, Value.pointer (some ⟨g0, 0, none⟩)), (1, Value.int .i64 (d1)), (11, Value.slice q1_A9 ((d1).toNat) (q1_c9)), (12, Value.int .i64 ((((d1).toNat : Nat) : Int)))]) (fun g => [(107, mone g0 (.cells [Value.bool d0.1, Value.bool d0.2.1, Value.bool d0.2.2.1, Value.int .i64 (d0.2.2.2.1), Value.int .i64 (d0.2.2.2.2.1), Value.slice (g.2.2.1) ((g.2.1).length) ((g.2.2.2.1)), Value.slice (g.2.2.2.2.2.2.1) ((g.2.2.2.2.2.1).length) ((g.2.2.2.2.2.2.2.1)), Value.slice (g.2.2.2.2.2.2.2.2.2.2.1) ((g.2.2.2.2.2.2.2.2.2.1).length) ((g.2.2.2.2.2.2.2.2.2.2.2.1)), Value.slice (g.2.2.2.2.2.2.2.2.2.2.2.2.2.2.1) ((g.2.2.2.2.2.2.2.2.2.2.2.2.2.1).length) ((g.2.2.2.2.2.2.2.2.2.2.2.2.2.2.2.1)), Value.slice q1_A9 (d0.2.2.2.2.2.2.length) (q1_c9)].toArray q1_E (0, 0))), (102, (g.2.2.2.2.1)), (103, (g.2.2.2.2.2.2.2.2.1)), (104, (g.2.2.2.2.2.2.2.2.2.2.2.2.1)), (105, (g.2.2.2.2.2.2.2.2.2.2.2.2.2.2.2.2)), (106, q1_n9), (0, mout (wm W) (m0))]) (fun g => ((g.1) ≤ d1.toNat) ∧ (((g.2.1), (g.2.2.2.2.2.1), (g.2.2.2.2.2.2.2.2.2.1), (g.2.2.2.2.2.2.2.2.2.2.2.2.2.1)) = play d0.2.2.2.2.2.1 (d0.2.2.2.2.2.2.take (g.1))) ∧ (OwnL .byte (g.2.2.2.2.1) mnil (.slice (g.2.2.1) (g.2.1).length (g.2.2.2.1)) (g.2.1)) ∧ (OwnL .byte (g.2.2.2.2.2.2.2.2.1) mnil (.slice (g.2.2.2.2.2.2.1) (g.2.2.2.2.2.1).length (g.2.2.2.2.2.2.2.1)) (g.2.2.2.2.2.1)) ∧ (OwnL .byte (g.2.2.2.2.2.2.2.2.2.2.2.2.1) mnil (.slice (g.2.2.2.2.2.2.2.2.2.2.1) (g.2.2.2.2.2.2.2.2.2.1).length (g.2.2.2.2.2.2.2.2.2.2.2.1)) (g.2.2.2.2.2.2.2.2.2.1)) ∧ (OwnL .byte (g.2.2.2.2.2.2.2.2.2.2.2.2.2.2.2.2) mnil (.slice (g.2.2.2.2.2.2.2.2.2.2.2.2.2.2.1) (g.2.2.2.2.2.2.2.2.2.2.2.2.2.1).length (g.2.2.2.2.2.2.2.2.2.2.2.2.2.2.2.1)) (g.2.2.2.2.2.2.2.2.2.2.2.2.2.1))) (fun g => d1.toNat - (g.1)) (0, d0.2.2.2.2.2.1.1, q1_A5, q1_c5, q1_n5, d0.2.2.2.2.2.1.2.1, q1_A6, q1_c6, q1_n6, d0.2.2.2.2.2.1.2.2.1, q1_A7, q1_c7, q1_n7, d0.2.2.2.2.2.1.2.2.2, q1_A8, q1_c8, q1_n8) (⟨by omega, by rfl, (Ow.ownl q1_5 rfl mnil), (Ow.ownl q1_6 rfl mnil), (Ow.ownl q1_7 rfl mnil), (Ow.ownl q1_8 rfl mnil)⟩) ⟨⟨rfl, rfl, rfl, rfl, rfl, trivial⟩, fun _ h => h.sub [107, 102, 103, 104, 105, 106, 0]⟩ ?_
  rintro ⟨k, b0, b0_A, b0_c, b0_m, b1, b1_A, b1_c, b1_m, b2, b2_A, b2_c, b2_m, b3, b3_A, b3_c, b3_m⟩ ⟨hk, hb, h_b0, h_b1, h_b2, h_b3⟩
  replace hk : k ≤ d1.toNat := hk
  replace hb : (b0, b1, b2, b3) = play d0.2.2.2.2.2.1 (d0.2.2.2.2.2.2.take k) := hb
  replace h_b0 : OwnL .byte b0_m mnil (.slice b0_A b0.length b0_c) b0 := h_b0
  replace h_b1 : OwnL .byte b1_m mnil (.slice b1_A b1.length b1_c) b1 := h_b1
  replace h_b2 : OwnL .byte b2_m mnil (.slice b2_A b2.length b2_c) b2 := h_b2
  replace h_b3 : OwnL .byte b3_m mnil (.slice b3_A b3.length b3_c) b3 := h_b3
  show VC _ _ _ _ _ [(13, Value.int .i64 (((k : Nat) : Int))), (0, Value.pointer (some ⟨g0, 0, none⟩)), (1, Value.int .i64 (d1)), (11, Value.slice q1_A9 ((d1).toNat) (q1_c9)), (12, Value.int .i64 ((((d1).toNat : Nat) : Int)))] [(107, mone g0 (.cells [Value.bool d0.1, Value.bool d0.2.1, Value.bool d0.2.2.1, Value.int .i64 (d0.2.2.2.1), Value.int .i64 (d0.2.2.2.2.1), Value.slice b0_A (b0.length) (b0_c), Value.slice b1_A (b1.length) (b1_c), Value.slice b2_A (b2.length) (b2_c), Value.slice b3_A (b3.length) (b3_c), Value.slice q1_A9 (d0.2.2.2.2.2.2.length) (q1_c9)].toArray q1_E (0, 0))), (102, b0_m), (103, b1_m), (104, b2_m), (105, b3_m), (106, q1_n9), (0, mout (wm W) (m0))]
  have l_b0 : b0.length ≤ b0_c := by obtain ⟨_, _, he, hl, _⟩ := h_b0.slice; simp only [Value.slice.injEq] at he; omega
  have k_b0 : b0_c ≤ 9223372036854775807 := by obtain ⟨_, _, he, _, hl⟩ := h_b0.slice; simp only [Value.slice.injEq, maxLen] at he hl; omega
  have l_b1 : b1.length ≤ b1_c := by obtain ⟨_, _, he, hl, _⟩ := h_b1.slice; simp only [Value.slice.injEq] at he; omega
  have k_b1 : b1_c ≤ 9223372036854775807 := by obtain ⟨_, _, he, _, hl⟩ := h_b1.slice; simp only [Value.slice.injEq, maxLen] at he hl; omega
  have l_b2 : b2.length ≤ b2_c := by obtain ⟨_, _, he, hl, _⟩ := h_b2.slice; simp only [Value.slice.injEq] at he; omega
  have k_b2 : b2_c ≤ 9223372036854775807 := by obtain ⟨_, _, he, _, hl⟩ := h_b2.slice; simp only [Value.slice.injEq, maxLen] at he hl; omega
  have l_b3 : b3.length ≤ b3_c := by obtain ⟨_, _, he, hl, _⟩ := h_b3.slice; simp only [Value.slice.injEq] at he; omega
  have k_b3 : b3_c ≤ 9223372036854775807 := by obtain ⟨_, _, he, _, hl⟩ := h_b3.slice; simp only [Value.slice.injEq, maxLen] at he hl; omega
  refine VC.rs ?_
  refine VO.y rfl (.lss rfl rfl) ?_
  refine VO.k6 0 1 11 12 13 14 ?_
  refine VC.seq ?_
  refine VC.cond rfl (fun hc9 => ?_) (fun hc9 => ?_)
  · -- T
    refine VC.skip ?_
    refine outN ?_
    refine VC.seq ?_
    refine VC.block ?_
    refine VC.rs ?_
    obtain ⟨x10, hx10⟩ : ∃ z_, ((d0.2.2.2.2.2.2).take ((d1).toNat))[k]? = some z_ := ⟨_, List.getElem?_eq_getElem (by exact fin2_dSettle_ok)⟩
    obtain ⟨gg10, oo10, ec10, ea10, hce10, hre10⟩ := (Ow.rd (q1_9.pre (j := ((d1).toNat)) (by exact fin2_dSettle_ok)) (mle_refl _)).elem hx10
    cases ea10
    obtain ⟨q10_A2, q10_c2, rfl, q10_0, q10_1, q10_2, q10_3⟩ := open_diskstep (x0 := x10.1) (x1 := x10.2.1) (x2 := x10.2.2.1) (x3 := x10.2.2.2) hre10
    simp only [inK] at q10_0
    simp only [inK] at q10_1
    have q10_r2 := Rd.room q10_2
    simp only [inK] at q10_3
    refine VO.y rfl (.ixI k rfl rfl tsl99 rfl (by exact fin2_dSettle_ok)) ?_
    refine VO.y rfl (.ldA 106 rfl tk148 rfl hce10) ?_
    refine VO.alloc 112 rfl tz148 (fun g11 => ?_)
    refine VO.store (k := 4) (c' := [Value.int .i64 (x10.1), Value.int .i64 (x10.2.1), Value.slice q10_A2 (x10.2.2.1.length) (q10_c2), Value.int .i64 (x10.2.2.2)]) 112 rfl rfl (.inl tk148) rfl rfl rfl rfl rfl ?_
    refine VO.kp [112, 107, 102, 103, 104, 105, 106, 0] [(112, mone g11 (.cells [Value.int .i64 (x10.1), Value.int .i64 (x10.2.1), Value.slice q10_A2 (x10.2.2.1.length) (q10_c2), Value.int .i64 (x10.2.2.2)].toArray 148 (0, 0))), (107, mone g0 (.cells [Value.bool d0.1, Value.bool d0.2.1, Value.bool d0.2.2.1, Value.int .i64 (d0.2.2.2.1), Value.int .i64 (d0.2.2.2.2.1), Value.slice b0_A (b0.length) (b0_c), Value.slice b1_A (b1.length) (b1_c), Value.slice b2_A (b2.length) (b2_c), Value.slice b3_A (b3.length) (b3_c), Value.slice (some ⟨gg10, oo10, none⟩) (d0.2.2.2.2.2.2.length) (q1_c9)].toArray q1_E (0, 0))), (102, b0_m), (103, b1_m), (104, b2_m), (105, b3_m), (106, q1_n9), (0, mout (wm W) (m0))] ?_
    refine VO.k7 0 1 5 11 12 13 14 ?_
    refine VC.regD _ 14 [(0, true), (1, true), (2, true), (3, true), (4, true), (5, true), (6, true), (7, true), (8, true), (9, true), (10, true), (12, true), (13, true), (11, false)] follows (by kernel_rfl) (fun _ h => h.sub [112, 107, 106, 0]) ?_
    refine VD.y rfl rfl (.inl rfl) (.mv rfl) ?_
    refine VD.y rfl rfl (.inl rfl) (.fa rfl tst148 rfl) ?_
    refine VD.y rfl rfl (.inl rfl) (.ld1 112 rfl tk3 rfl (cellsAt_one rfl rfl)) ?_
    refine VD.y rfl rfl (.inl rfl) (.mv rfl) ?_
    refine VD.y rfl rfl (.inl rfl) (.fa rfl tst148 rfl) ?_
    refine VD.y rfl rfl (.inl rfl) (.ld1 112 rfl tk3 rfl (cellsAt_one rfl rfl)) ?_
    refine VD.y rfl rfl (.inl rfl) (.nilp rfl) ?_
    refine VD.y rfl rfl (.inl rfl) (.fa rfl tst101 rfl) ?_
    rcases (show x10.2.1 = (0 : Int) ∨ x10.2.1 = (1 : Int) ∨ x10.2.1 = (2 : Int) ∨ x10.2.1 = (3 : Int) from by exact fin2_dSettle_ok) with hi13 | hi13 | hi13 | hi13
    · -- T0
      refine VD.y rfl rfl (.inl rfl) (.ixa (i := 0) (o := 5) rfl rfl tar98 hi13 rfl rfl) ?_
      refine VD.y rfl rfl (.inl rfl) (.ld1 107 rfl tk97 rfl (cellsAt_one rfl rfl)) ?_
      refine VD.y rfl rfl (.inl rfl) (.ldA 112 rfl tk148 rfl (cellsAt_one rfl rfl)) ?_
      refine VD.y rfl rfl (.inl rfl) (.nilp rfl) ?_
      refine VD.y rfl rfl (.inl rfl) (.fa rfl tst101 rfl) ?_
      refine VD.call 102 rfl rfl (.inl rfl) fnOk131 rfl rfl (fun _ _ h => h.sub [112, 107, 106, 0]) (fun W hW => dDone_ok W (hW.at (i := 102) rfl) (OwnL.ow h_b0 rfl) (Rd.mono hre10 (hW.out (i := 102) (j := 106) rfl rfl)) (by exact fin1_dSettle_ok) (by exact fin0_dSettle_ok)) (fun v14 m14 hv14 => ?_)
      obtain ⟨s14_0, rfl, f14_0⟩ := hv14
      obtain ⟨A14_0, c14_0, eq14_0, l14_0, k14_0⟩ := f14_0.slice
      subst eq14_0
      simp only [maxLen] at k14_0
      refine VD.nil rfl ?_ rfl
      refine VO.y rfl (.ixa (i := 0) (o := 5) rfl rfl tar98 hi13 rfl rfl) ?_
      refine VO.store (k := 1) 107 rfl rfl (.inr ⟨tk97, rfl⟩) rfl rfl rfl rfl rfl ?_
      refine VO.k7 0 1 5 11 12 13 14 ?_
      refine outBN ?_
      refine outN ?_
      refine VC.reg ?_
      refine VO.y rfl (.add (c := ((k + 1 : Nat) : Int)) rfl rfl (by omega) ⟨by exact fin2_dSettle_ok, by exact fin2_dSettle_ok⟩) ?_
      refine VO.mv ?_
      refine VO.k7 0 1 5 11 12 13 14 ?_
      exact outN ⟨⟨k + 1, doneB b0 x10, A14_0, c14_0, m14, b1, b1_A, b1_c, b1_m, b2, b2_A, b2_c, b2_m, b3, b3_A, b3_c, b3_m⟩, ⟨by omega, by first | (have h_ := play_next hb (get_take ‹(d0.2.2.2.2.2.2.take d1.toNat)[k]? = some _›); rw [stepQ, setQ0 ‹_ = (0 : Int)›, getF0 ‹_ = (0 : Int)›] at h_; exact h_) | (have h_ := play_next hb (get_take ‹(d0.2.2.2.2.2.2.take d1.toNat)[k]? = some _›); rw [stepQ, setQ1 ‹_ = (1 : Int)›, getF1 ‹_ = (1 : Int)›] at h_; exact h_) | (have h_ := play_next hb (get_take ‹(d0.2.2.2.2.2.2.take d1.toNat)[k]? = some _›); rw [stepQ, setQ2 ‹_ = (2 : Int)›, getF2 ‹_ = (2 : Int)›] at h_; exact h_) | (have h_ := play_next hb (get_take ‹(d0.2.2.2.2.2.2.take d1.toNat)[k]? = some _›); rw [stepQ, setQ3 ‹_ = (3 : Int)›, getF3 ‹_ = (3 : Int)›] at h_; exact h_), (Ow.ownl f14_0 rfl mnil), h_b1, h_b2, h_b3⟩, by exact fin2_dSettle_ok, ⟨⟨rfl, rfl, rfl, rfl, rfl, trivial⟩, fun _ h => Inv.sub h [107, 102, 103, 104, 105, 106, 0]⟩⟩
    · -- T1
      refine VD.y rfl rfl (.inl rfl) (.ixa (i := 1) (o := 6) rfl rfl tar98 hi13 rfl rfl) ?_
      refine VD.y rfl rfl (.inl rfl) (.ld1 107 rfl tk97 rfl (cellsAt_one rfl rfl)) ?_
      refine VD.y rfl rfl (.inl rfl) (.ldA 112 rfl tk148 rfl (cellsAt_one rfl rfl)) ?_
      refine VD.y rfl rfl (.inl rfl) (.nilp rfl) ?_
      refine VD.y rfl rfl (.inl rfl) (.fa rfl tst101 rfl) ?_
      refine VD.call 103 rfl rfl (.inl rfl) fnOk131 rfl rfl (fun _ _ h => h.sub [112, 107, 106, 0]) (fun W hW => dDone_ok W (hW.at (i := 103) rfl) (OwnL.ow h_b1 rfl) (Rd.mono hre10 (hW.out (i := 103) (j := 106) rfl rfl)) (by exact fin1_dSettle_ok) (by exact fin0_dSettle_ok)) (fun v15 m15 hv15 => ?_)
      obtain ⟨s15_0, rfl, f15_0⟩ := hv15
      obtain ⟨A15_0, c15_0, eq15_0, l15_0, k15_0⟩ := f15_0.slice
      subst eq15_0
      simp only [maxLen] at k15_0
      refine VD.nil rfl ?_ rfl
      refine VO.y rfl (.ixa (i := 1) (o := 6) rfl rfl tar98 hi13 rfl rfl) ?_
      refine VO.store (k := 1) 107 rfl rfl (.inr ⟨tk97, rfl⟩) rfl rfl rfl rfl rfl ?_
      refine VO.k7 0 1 5 11 12 13 14 ?_
      refine outBN ?_
      refine outN ?_
      refine VC.reg ?_
      refine VO.y rfl (.add (c := ((k + 1 : Nat) : Int)) rfl rfl (by omega) ⟨by exact fin2_dSettle_ok, by exact fin2_dSettle_ok⟩) ?_
      refine VO.mv ?_
      refine VO.k7 0 1 5 11 12 13 14 ?_
      exact outN ⟨⟨k + 1, b0, b0_A, b0_c, b0_m, doneB b1 x10, A15_0, c15_0, m15, b2, b2_A, b2_c, b2_m, b3, b3_A, b3_c, b3_m⟩, ⟨by omega, by first | (have h_ := play_next hb (get_take ‹(d0.2.2.2.2.2.2.take d1.toNat)[k]? = some _›); rw [stepQ, setQ0 ‹_ = (0 : Int)›, getF0 ‹_ = (0 : Int)›] at h_; exact h_) | (have h_ := play_next hb (get_take ‹(d0.2.2.2.2.2.2.take d1.toNat)[k]? = some _›); rw [stepQ, setQ1 ‹_ = (1 : Int)›, getF1 ‹_ = (1 : Int)›] at h_; exact h_) | (have h_ := play_next hb (get_take ‹(d0.2.2.2.2.2.2.take d1.toNat)[k]? = some _›); rw [stepQ, setQ2 ‹_ = (2 : Int)›, getF2 ‹_ = (2 : Int)›] at h_; exact h_) | (have h_ := play_next hb (get_take ‹(d0.2.2.2.2.2.2.take d1.toNat)[k]? = some _›); rw [stepQ, setQ3 ‹_ = (3 : Int)›, getF3 ‹_ = (3 : Int)›] at h_; exact h_), h_b0, (Ow.ownl f15_0 rfl mnil), h_b2, h_b3⟩, by exact fin2_dSettle_ok, ⟨⟨rfl, rfl, rfl, rfl, rfl, trivial⟩, fun _ h => Inv.sub h [107, 102, 103, 104, 105, 106, 0]⟩⟩
    · -- T2
      refine VD.y rfl rfl (.inl rfl) (.ixa (i := 2) (o := 7) rfl rfl tar98 hi13 rfl rfl) ?_
      refine VD.y rfl rfl (.inl rfl) (.ld1 107 rfl tk97 rfl (cellsAt_one rfl rfl)) ?_
      refine VD.y rfl rfl (.inl rfl) (.ldA 112 rfl tk148 rfl (cellsAt_one rfl rfl)) ?_
      refine VD.y rfl rfl (.inl rfl) (.nilp rfl) ?_
      refine VD.y rfl rfl (.inl rfl) (.fa rfl tst101 rfl) ?_
      refine VD.call 104 rfl rfl (.inl rfl) fnOk131 rfl rfl (fun _ _ h => h.sub [112, 107, 106, 0]) (fun W hW => dDone_ok W (hW.at (i := 104) rfl) (OwnL.ow h_b2 rfl) (Rd.mono hre10 (hW.out (i := 104) (j := 106) rfl rfl)) (by exact fin1_dSettle_ok) (by exact fin0_dSettle_ok)) (fun v16 m16 hv16 => ?_)
      obtain ⟨s16_0, rfl, f16_0⟩ := hv16
      obtain ⟨A16_0, c16_0, eq16_0, l16_0, k16_0⟩ := f16_0.slice
      subst eq16_0
      simp only [maxLen] at k16_0
      refine VD.nil rfl ?_ rfl
      refine VO.y rfl (.ixa (i := 2) (o := 7) rfl rfl tar98 hi13 rfl rfl) ?_
      refine VO.store (k := 1) 107 rfl rfl (.inr ⟨tk97, rfl⟩) rfl rfl rfl rfl rfl ?_
      refine VO.k7 0 1 5 11 12 13 14 ?_
      refine outBN ?_
      refine outN ?_
      refine VC.reg ?_
      refine VO.y rfl (.add (c := ((k + 1 : Nat) : Int)) rfl rfl (by omega) ⟨by exact fin2_dSettle_ok, by exact fin2_dSettle_ok⟩) ?_
      refine VO.mv ?_
      refine VO.k7 0 1 5 11 12 13 14 ?_
      exact outN ⟨⟨k + 1, b0, b0_A, b0_c, b0_m, b1, b1_A, b1_c, b1_m, doneB b2 x10, A16_0, c16_0, m16, b3, b3_A, b3_c, b3_m⟩, ⟨by omega, by first | (have h_ := play_next hb (get_take ‹(d0.2.2.2.2.2.2.take d1.toNat)[k]? = some _›); rw [stepQ, setQ0 ‹_ = (0 : Int)›, getF0 ‹_ = (0 : Int)›] at h_; exact h_) | (have h_ := play_next hb (get_take ‹(d0.2.2.2.2.2.2.take d1.toNat)[k]? = some _›); rw [stepQ, setQ1 ‹_ = (1 : Int)›, getF1 ‹_ = (1 : Int)›] at h_; exact h_) | (have h_ := play_next hb (get_take ‹(d0.2.2.2.2.2.2.take d1.toNat)[k]? = some _›); rw [stepQ, setQ2 ‹_ = (2 : Int)›, getF2 ‹_ = (2 : Int)›] at h_; exact h_) | (have h_ := play_next hb (get_take ‹(d0.2.2.2.2.2.2.take d1.toNat)[k]? = some _›); rw [stepQ, setQ3 ‹_ = (3 : Int)›, getF3 ‹_ = (3 : Int)›] at h_; exact h_), h_b0, h_b1, (Ow.ownl f16_0 rfl mnil), h_b3⟩, by exact fin2_dSettle_ok, ⟨⟨rfl, rfl, rfl, rfl, rfl, trivial⟩, fun _ h => Inv.sub h [107, 102, 103, 104, 105, 106, 0]⟩⟩
    · -- T3
      refine VD.y rfl rfl (.inl rfl) (.ixa (i := 3) (o := 8) rfl rfl tar98 hi13 rfl rfl) ?_
      refine VD.y rfl rfl (.inl rfl) (.ld1 107 rfl tk97 rfl (cellsAt_one rfl rfl)) ?_
      refine VD.y rfl rfl (.inl rfl) (.ldA 112 rfl tk148 rfl (cellsAt_one rfl rfl)) ?_
      refine VD.y rfl rfl (.inl rfl) (.nilp rfl) ?_
      refine VD.y rfl rfl (.inl rfl) (.fa rfl tst101 rfl) ?_
      refine VD.call 105 rfl rfl (.inl rfl) fnOk131 rfl rfl (fun _ _ h => h.sub [112, 107, 106, 0]) (fun W hW => dDone_ok W (hW.at (i := 105) rfl) (OwnL.ow h_b3 rfl) (Rd.mono hre10 (hW.out (i := 105) (j := 106) rfl rfl)) (by exact fin1_dSettle_ok) (by exact fin0_dSettle_ok)) (fun v17 m17 hv17 => ?_)
      obtain ⟨s17_0, rfl, f17_0⟩ := hv17
      obtain ⟨A17_0, c17_0, eq17_0, l17_0, k17_0⟩ := f17_0.slice
      subst eq17_0
      simp only [maxLen] at k17_0
      refine VD.nil rfl ?_ rfl
      refine VO.y rfl (.ixa (i := 3) (o := 8) rfl rfl tar98 hi13 rfl rfl) ?_
      refine VO.store (k := 1) 107 rfl rfl (.inr ⟨tk97, rfl⟩) rfl rfl rfl rfl rfl ?_
      refine VO.k7 0 1 5 11 12 13 14 ?_
      refine outBN ?_
      refine outN ?_
      refine VC.reg ?_
      refine VO.y rfl (.add (c := ((k + 1 : Nat) : Int)) rfl rfl (by omega) ⟨by exact fin2_dSettle_ok, by exact fin2_dSettle_ok⟩) ?_
      refine VO.mv ?_
      refine VO.k7 0 1 5 11 12 13 14 ?_
      exact outN ⟨⟨k + 1, b0, b0_A, b0_c, b0_m, b1, b1_A, b1_c, b1_m, b2, b2_A, b2_c, b2_m, doneB b3 x10, A17_0, c17_0, m17⟩, ⟨by omega, by first | (have h_ := play_next hb (get_take ‹(d0.2.2.2.2.2.2.take d1.toNat)[k]? = some _›); rw [stepQ, setQ0 ‹_ = (0 : Int)›, getF0 ‹_ = (0 : Int)›] at h_; exact h_) | (have h_ := play_next hb (get_take ‹(d0.2.2.2.2.2.2.take d1.toNat)[k]? = some _›); rw [stepQ, setQ1 ‹_ = (1 : Int)›, getF1 ‹_ = (1 : Int)›] at h_; exact h_) | (have h_ := play_next hb (get_take ‹(d0.2.2.2.2.2.2.take d1.toNat)[k]? = some _›); rw [stepQ, setQ2 ‹_ = (2 : Int)›, getF2 ‹_ = (2 : Int)›] at h_; exact h_) | (have h_ := play_next hb (get_take ‹(d0.2.2.2.2.2.2.take d1.toNat)[k]? = some _›); rw [stepQ, setQ3 ‹_ = (3 : Int)›, getF3 ‹_ = (3 : Int)›] at h_; exact h_), h_b0, h_b1, h_b2, (Ow.ownl f17_0 rfl mnil)⟩, by exact fin2_dSettle_ok, ⟨⟨rfl, rfl, rfl, rfl, rfl, trivial⟩, fun _ h => Inv.sub h [107, 102, 103, 104, 105, 106, 0]⟩⟩
  · -- F
    refine VC.exit ?_
    refine outE ?_
    refine outE ?_
    refine outBB ?_
    refine outN ?_
    refine VC.reg ?_
    refine VO.mv ?_
    refine VO.mv ?_
    refine VO.y rfl (.nilp rfl) ?_
    refine VO.y rfl (.fa rfl tst101 rfl) ?_
    refine VO.y rfl (.ld1 107 rfl tk99 rfl (cellsAt_one rfl rfl)) ?_
    refine VO.mv ?_
    obtain ⟨A18, hA18, ho18⟩ := q1_9.drop' 4 ((d1).toNat) rfl (by exact fin2_dSettle_ok)
    refine VO.y rfl (.slLI ((d1).toNat) A18 rfl rfl tsl99 (by exact fin2_dSettle_ok) hA18 (by exact fin2_dSettle_ok)) ?_
    refine VO.y rfl (.nilp rfl) ?_
    refine VO.y rfl (.fa rfl tst101 rfl) ?_
    refine VO.store (k := 1) 107 rfl rfl (.inr ⟨tk99, rfl⟩) rfl rfl rfl rfl rfl ?_
    refine VO.kp [107, 102, 103, 104, 105, 106, 0] [(107, mone g0 (.cells [Value.bool d0.1, Value.bool d0.2.1, Value.bool d0.2.2.1, Value.int .i64 (d0.2.2.2.1), Value.int .i64 (d0.2.2.2.2.1), Value.slice b0_A (b0.length) (b0_c), Value.slice b1_A (b1.length) (b1_c), Value.slice b2_A (b2.length) (b2_c), Value.slice b3_A (b3.length) (b3_c), Value.slice A18 (d0.2.2.2.2.2.2.length - ((d1).toNat)) (q1_c9 - ((d1).toNat))].toArray q1_E (0, 0))), (102, b0_m), (103, b1_m), (104, b2_m), (105, b3_m), (106, q1_n9), (0, mout (wm W) (m0))] ?_
    refine VO.k6 0 1 11 12 13 14 ?_
    refine ⟨_, _, res_run (rs := []) rfl .nil, fun W_ hI => out_of (l := [mone g0 (.cells [Value.bool d0.1, Value.bool d0.2.1, Value.bool d0.2.2.1, Value.int .i64 (d0.2.2.2.1), Value.int .i64 (d0.2.2.2.2.1), Value.slice b0_A (b0.length) (b0_c), Value.slice b1_A (b1.length) (b1_c), Value.slice b2_A (b2.length) (b2_c), Value.slice b3_A (b3.length) (b3_c), Value.slice A18 (d0.2.2.2.2.2.2.length - ((d1).toNat)) (q1_c9 - ((d1).toNat))].toArray q1_E (0, 0)), b0_m, b1_m, b2_m, b3_m, q1_n9]) hI [107, 102, 103, 104, 105, 106] rfl rfl (mle_refl _) (fun hS_ => ?_)⟩
    dsimp only [packV]
    have hm0_ : (settleD d0 d1.toNat : DdiskDisk) = (d0.1, d0.2.1, d0.2.2.1, d0.2.2.2.1, d0.2.2.2.2.1, (b0, b1, b2, b3), d0.2.2.2.2.2.2.drop ((d1).toNat)) := by first | rfl | ((have hk2 : k = d1.toNat := (by omega); subst hk2; unfold settleD; rw [← hb]))
    refine ⟨?_, ?_⟩
    rotate_left
    · rw [hm0_]; exact (mkP_diskDisk d0.1 d0.2.1 d0.2.2.1 d0.2.2.2.1 d0.2.2.2.2.1 b0 b1 b2 b3 (d0.2.2.2.2.2.2.drop ((d1).toNat)) hS_ (by simp only [inK]; (exact fin2_dSettle_ok)) (by simp only [inK]; (exact fin2_dSettle_ok)) (OwnL.ow h_b0 rfl) (OwnL.ow h_b1 rfl) (OwnL.ow h_b2 rfl) (OwnL.ow h_b3 rfl) ho18)
    all_goals (first | rfl | (simp [*]; done))
theorem fnOk102 : fnOk Tryz.prog 102 = true := by kernel_rfl
theorem fnOk103 : fnOk Tryz.prog 103 = true := by kernel_rfl
theorem fnOk63 : fnOk Tryz.prog 63 = true := by kernel_rfl
theorem fnOk98 : fnOk Tryz.prog 98 = true := by kernel_rfl
theorem fnOk99 : fnOk Tryz.prog 99 = true := by kernel_rfl
theorem fin0_dWrite_ok {P : Prop} (h : P := by first | (rw [write_bad1 (by assumption)] <;> rfl) | (rw [write_bad2 (by assumption) (by assumption)] <;> rfl) | (rw [write_go (by assumption) (by assumption), write_off hp hn (by omega) (by assumption)] <;> rfl) | (rw [write_go (by assumption) (by assumption), write_end hp (by omega)] <;> rfl)) : P := h
theorem dWrite_ok (W : World) {m0 : Mem} (hm : mle (m0) (wm W)) {g0 : Nat} {d0 : DdiskDisk} (h0 : Ow (.ptr TdiskDisk) m0 [.pointer (some ⟨g0, 0, none⟩)] (g0, d0)) (d1 : Int) (h1 : inK .i64 d1) {v2 : Value} {d2 : List UInt8} (h2 : Rd (.sl .byte) (mout (wm W) (m0)) [v2] d2) (e0 : okD d0) (e1 : wD d0 + 3 * d2.length ≤ 1000000000000) : CallR Tryz.prog 84 [.pointer (some ⟨g0, 0, none⟩), .int .i64 d1, v2] W (m0) (fun v m' => v = .int .i64 ((dWrite d0 d1 d2).2) ∧ Ow (.ptr TdiskDisk) m' [.pointer (some ⟨g0, 0, none⟩)] (g0, (dWrite d0 d1 d2).1)) := by
  have hok0 := e0; obtain ⟨hg, hfu, hst⟩ := e0
  have h1' := h1; simp only [inK] at h1'
  obtain ⟨A2, c2, rfl, l2, k2⟩ := h2.slice
  simp only [maxLen] at k2
  refine CallR.ofB (n := 44) hm Tryz.func84 rfl rfl rfl ?_
  refine VC.rs ?_
  refine VO.as ?_
  refine VO.k4 0 1 2 6 ?_
  refine VC.seq ?_
  refine VC.rs ?_
  refine VO.mv ?_
  refine VO.call 1 rfl fnOk63 rfl rfl (fun W hW => dWrong_ok W (hW.at (i := 1) rfl) h0) (fun v1 m1 hv1 => ?_)
  obtain ⟨rfl, w1_0⟩ := hv1
  refine VO.as ?_
  refine VO.k5 0 1 2 6 7 ?_
  refine VC.rs ?_
  refine VO.mv ?_
  refine VO.y rfl (.neq rfl rfl) ?_
  refine VO.kp [1, 0] [(1, m1), (0, mout (wm W) (m0))] ?_
  refine VO.k6 0 1 2 6 7 12 ?_
  refine VC.cond rfl (fun hc2 => ?_) (fun hc2 => ?_)
  · -- T
    refine VC.rs ?_
    refine VO.mv ?_
    refine VO.as ?_
    refine VO.k6 0 1 2 6 7 12 ?_
    refine VC.ret ?_
    refine outR ?_
    refine ⟨_, _, res_run (rs := [.tmp 6]) rfl (.tmp rfl .nil), fun W_ hI => out_of (l := [m1]) hI [1] rfl rfl (mle_refl _) (fun hS_ => ?_)⟩
    dsimp only [packV]
    have hm0_ : ((dWrite d0 d1 d2).1 : DdiskDisk) = d0 := by first | rfl | (exact fin0_dWrite_ok)
    refine ⟨?_, ?_⟩
    rotate_left
    · rw [hm0_]; exact (Ow.up w1_0 (hS_.1 _ (.head _)))
    all_goals (first | rfl | (exact fin0_dWrite_ok))
  · -- F
    refine VC.skip ?_
    refine outN ?_
    refine VC.seq ?_
    refine VC.rs ?_
    refine VO.mv ?_
    refine VO.callN 103 rfl fnOk98 rfl (fun W hW => dIs_ok W d1 bdk) (fun v3 m3 hv3 => ?_)
    subst hv3
    refine VO.y rfl (.notD rfl) ?_
    refine VO.k7 0 1 2 6 7 12 16 ?_
    refine VC.cond rfl (fun hc4 => ?_) (fun hc4 => ?_)
    · -- FT
      refine VC.rs ?_
      refine VO.as ?_
      refine VO.k7 0 1 2 6 7 12 16 ?_
      refine VC.ret ?_
      refine outR ?_
      refine ⟨_, _, res_run (rs := [.tmp 6]) rfl (.tmp rfl .nil), fun W_ hI => out_of (l := [m1]) hI [1] rfl rfl (mle_refl _) (fun hS_ => ?_)⟩
      dsimp only [packV]
      have hm0_ : ((dWrite d0 d1 d2).1 : DdiskDisk) = d0 := by first | rfl | (exact fin0_dWrite_ok)
      refine ⟨?_, ?_⟩
      rotate_left
      · rw [hm0_]; exact (Ow.up w1_0 (hS_.1 _ (.head _)))
      all_goals (first | rfl | (exact fin0_dWrite_ok))
    · -- FF
      refine VC.skip ?_
      refine outN ?_
      refine VC.seq ?_
      refine VC.block ?_
      refine VC.loop (G := DdiskDisk × Mem × (List UInt8) × (Option Addr) × Nat × Nat) (fun g => [(2, Value.slice (g.2.2.2.1) ((g.2.2.1).length) ((g.2.2.2.2.1))), (0, Value.pointer (some ⟨g0, 0, none⟩)), (1, Value.int .i64 (d1)), (7, Value.int .i64 (wrongD d0)), (12, Value.bool (decide (¬ (wrongD d0) = 0))), (16, Value.bool (decide (¬ (inF d1))))]) (fun g => [(1, (g.2.1)), (0, mout (wm W) (m0))]) (fun g => (writeGo d2.length d0 d1 d2 = writeGo (g.2.2.2.2.2) (g.1) d1 (g.2.2.1)) ∧ ((g.2.2.1).length ≤ (g.2.2.2.2.2)) ∧ (okD (g.1)) ∧ (wD (g.1) + 3 * (g.2.2.1).length ≤ 1000000000000) ∧ (Rd (.sl .byte) (mout (wm W) (m0)) [.slice (g.2.2.2.1) (g.2.2.1).length (g.2.2.2.2.1)] (g.2.2.1)) ∧ (Ow (.ptr TdiskDisk) (g.2.1) [.pointer (some ⟨g0, 0, none⟩)] (g0, (g.1)))) (fun g => (g.2.2.1).length) (d0, m1, d2, A2, c2, d2.length) (⟨by rfl, by (dsimp only; omega), by exact hok0, by (dsimp only; omega), h2, w1_0⟩) ⟨⟨rfl, rfl, rfl, rfl, rfl, rfl, trivial⟩, fun _ h => h.sub [1, 0]⟩ ?_
      rintro ⟨d, d_m, b, b_A, b_c, n⟩ ⟨hp, hn, hok, hw, h_b, h_d⟩
      replace hp : writeGo d2.length d0 d1 d2 = writeGo n d d1 b := hp
      replace hn : b.length ≤ n := hn
      replace hok : okD d := hok
      replace hw : wD d + 3 * b.length ≤ 1000000000000 := hw
      replace h_b : Rd (.sl .byte) (mout (wm W) (m0)) [.slice b_A b.length b_c] b := h_b
      replace h_d : Ow (.ptr TdiskDisk) d_m [.pointer (some ⟨g0, 0, none⟩)] (g0, d) := h_d
      show VC _ _ _ _ _ [(2, Value.slice b_A (b.length) (b_c)), (0, Value.pointer (some ⟨g0, 0, none⟩)), (1, Value.int .i64 (d1)), (7, Value.int .i64 (wrongD d0)), (12, Value.bool (decide (¬ (wrongD d0) = 0))), (16, Value.bool (decide (¬ (inF d1))))] [(1, d_m), (0, mout (wm W) (m0))]
      have l_b : b.length ≤ b_c := by obtain ⟨_, _, he, hl, _⟩ := h_b.slice; simp only [Value.slice.injEq] at he; omega
      have k_b : b_c ≤ 9223372036854775807 := by obtain ⟨_, _, he, _, hl⟩ := h_b.slice; simp only [Value.slice.injEq, maxLen] at he hl; omega
      refine VC.seq ?_
      refine VC.rs ?_
      refine VO.mv ?_
      refine VO.y rfl (.lenS rfl tsl97) ?_
      refine VO.y rfl (.gtr rfl rfl) ?_
      refine VO.k7 0 1 2 7 12 16 19 ?_
      refine VC.cond rfl (fun hc5 => ?_) (fun hc5 => ?_)
      · -- FFT
        refine VC.skip ?_
        refine outN ?_
        refine VC.block ?_
        refine VC.seq ?_
        refine VC.rs ?_
        refine VO.mv ?_
        refine VO.call 1 rfl fnOk102 rfl rfl (fun W hW => dBurn_ok W (hW.at (i := 1) rfl) h_d (by assumption) bd) (fun v6 m6 hv6 => ?_)
        obtain ⟨rfl, w6_0⟩ := hv6
        have hfa7 := (burn_ok (show okD d by assumption))
        have hfa8 := (burn_w (show okD d by assumption))
        have hfa9 := (len_w (burnD d).1)
        refine VO.y rfl (.notD rfl) ?_
        refine VO.kp [1, 0] [(1, m6), (0, mout (wm W) (m0))] ?_
        refine VO.k8 0 1 2 7 12 16 19 22 ?_
        refine VC.cond rfl (fun hc10 => ?_) (fun hc10 => ?_)
        · -- FFTT
          refine VC.rs ?_
          refine VO.as ?_
          refine VO.k9 0 1 2 6 7 12 16 19 22 ?_
          refine VC.ret ?_
          refine outR ?_
          refine outBR ?_
          refine outR ?_
          refine outBR ?_
          refine outR ?_
          refine ⟨_, _, res_run (rs := [.tmp 6]) rfl (.tmp rfl .nil), fun W_ hI => out_of (l := [m6]) hI [1] rfl rfl (mle_refl _) (fun hS_ => ?_)⟩
          dsimp only [packV]
          have hm0_ : ((dWrite d0 d1 d2).1 : DdiskDisk) = (burnD d).1 := by first | rfl | (exact fin0_dWrite_ok)
          refine ⟨?_, ?_⟩
          rotate_left
          · rw [hm0_]; exact (Ow.up w6_0 (hS_.1 _ (.head _)))
          all_goals (first | rfl | (exact fin0_dWrite_ok))
        · -- FFTF
          refine VC.skip ?_
          refine outN ?_
          refine VC.rs ?_
          refine VO.mv ?_
          refine VO.y rfl (.lenS rfl tsl97) ?_
          refine VO.y rfl (.minM rfl rfl) ?_
          refine VO.as ?_
          refine VO.k9 0 1 2 7 8 12 16 19 22 ?_
          refine VC.seq ?_
          obtain ⟨q11_E, q11_A5, q11_c5, q11_A6, q11_c6, q11_A7, q11_c7, q11_A8, q11_c8, q11_A9, q11_c9, q11_n5, q11_n6, q11_n7, q11_n8, q11_n9, _, q11_S, q11_3, q11_4, q11_5, q11_6, q11_7, q11_8, q11_9⟩ := openP_diskDisk (x0 := ((burnD d).1).1) (x1 := ((burnD d).1).2.1) (x2 := ((burnD d).1).2.2.1) (x3 := ((burnD d).1).2.2.2.1) (x4 := ((burnD d).1).2.2.2.2.1) (x5 := (((burnD d).1).2.2.2.2.2.1).1) (x6 := (((burnD d).1).2.2.2.2.2.1).2.1) (x7 := (((burnD d).1).2.2.2.2.2.1).2.2.1) (x8 := (((burnD d).1).2.2.2.2.2.1).2.2.2) (x9 := ((burnD d).1).2.2.2.2.2.2) w6_0
          simp only [inK] at q11_3
          simp only [inK] at q11_4
          have q11_r5 := q11_5.rm
          have q11_r6 := q11_6.rm
          have q11_r7 := q11_7.rm
          have q11_r8 := q11_8.rm
          have q11_r9 := q11_9.rm
          refine VC.inv _ (fun _ h => h.parts (i := 1) rfl q11_S [117, 112, 113, 114, 115, 116]) ?_
          refine VC.regD _ 13 [(0, true), (1, true), (2, true), (3, true), (4, true), (5, true), (6, true), (7, true), (8, true), (9, false), (10, true), (11, false), (12, false)] follows (by kernel_rfl) (fun _ h => h.sub [117, 112, 113, 114, 115, 0]) ?_
          refine VD.y rfl rfl (.inl rfl) (.mv rfl) ?_
          refine VD.y rfl rfl (.inl rfl) (.mv rfl) ?_
          refine VD.y rfl rfl (.inl rfl) (.nilp rfl) ?_
          refine VD.y rfl rfl (.inl rfl) (.fa rfl tst101 rfl) ?_
          refine VD.y rfl rfl (.inl rfl) (.ld1 117 rfl tk99 rfl (cellsAt_one rfl rfl)) ?_
          refine VD.y rfl rfl (.inl rfl) (.mv rfl) ?_
          refine VD.y rfl rfl (.inl rfl) (.mv rfl) ?_
          refine VD.y rfl rfl (.inl rfl) (.mv rfl) ?_
          have hs18 := h_b.pre (j := ((min ((b.length : Nat) : Int) 64).toNat)) bd
          refine VD.y rfl rfl (.inl rfl) (.slHI ((min ((b.length : Nat) : Int) 64).toNat) rfl rfl tsl97 bd bd) ?_
          refine VD.inv _ (fun _ h => h.nilc 120) ?_
          obtain ⟨mo19, cs19, hM19, hA19, hC19⟩ := (OwnL.nil .byte mnil mnil)
          obtain ⟨all19, hS19, hR19⟩ := Rd.srcI (P := Tryz.prog) (hs18) Tryz.underlying97
          refine VD.app 120 rfl rfl rfl rfl tsl97 tz5 rfl rfl hM19 hA19 (hS19 _ 0 rfl) hR19.nice bdm bd (by decide) (fun _ _ h => h.sub [117, 112, 113, 114, 115, 0]) (fun v19 m19 hN19 => ?_)
          have ho19 : OwnL .byte m19 mnil v19 ((b).take ((min ((b.length : Nat) : Int) 64).toNat)) := OwnL.more hC19 hN19 (All2c.mono hR19 fun _ _ h => Rd.flat rfl h _)
          obtain ⟨A19, c19, rfl, l19, k19⟩ := ho19.slice
          simp only [maxLen] at k19
          refine VD.y rfl rfl (.inl rfl) (.bst (cs := [Value.int .i64 (0), Value.int .i64 (d1), Value.slice A19 (((b).take ((min ((b.length : Nat) : Int) 64).toNat)).length) (c19), Value.int .i64 (0)]) rfl tst148 tz148 rfl) ?_
          refine VD.bsl (cs := [Value.int .i64 (0), Value.int .i64 (d1), Value.slice A19 (((b).take ((min ((b.length : Nat) : Int) 64).toNat)).length) (c19), Value.int .i64 (0)]) 122 rfl rfl rfl tsl99 tz148 rfl rfl (fun _ h => h.sub [117, 112, 113, 114, 115, 0]) (fun g21 => ?_)
          refine VD.appO (e := Tdiskstep) 116 120 122 rfl rfl rfl rfl tsl99 tz148 rfl rfl rfl rfl q11_9 (mkO_diskstep 0 d1 ((b).take ((min ((b.length : Nat) : Int) 64).toNat)) 0 (Seps.one (mle_refl _)) bdk bdk (OwnL.ow ho19 rfl) bdk) Tryz.underlying99 (cellsAt_one rfl rfl) bdm bd (by decide) (fun _ _ h => h.sub [117, 112, 113, 114, 115, 0]) (fun v23 m23 ho23 => ?_)
          obtain ⟨A23, c23, rfl, l23, k23⟩ := ho23.slice
          simp only [maxLen] at k23
          refine VD.nil rfl ?_ rfl
          refine VO.y rfl (.nilp rfl) ?_
          refine VO.y rfl (.fa rfl tst101 rfl) ?_
          refine VO.store (k := 1) 117 rfl rfl (.inr ⟨tk99, rfl⟩) rfl rfl rfl rfl rfl ?_
          refine VO.clsP 124 [117, 112, 113, 114, 115, 116] rfl (fun hg24 => (mkP_diskDisk (((burnD d).1).1) (((burnD d).1).2.1) (((burnD d).1).2.2.1) (((burnD d).1).2.2.2.1) (((burnD d).1).2.2.2.2.1) ((((burnD d).1).2.2.2.2.2.1).1) ((((burnD d).1).2.2.2.2.2.1).2.1) ((((burnD d).1).2.2.2.2.2.1).2.2.1) ((((burnD d).1).2.2.2.2.2.1).2.2.2) ((((burnD d).1).2.2.2.2.2.2) ++ [((0, d1, (b).take ((min ((b.length : Nat) : Int) 64).toNat), 0) : Ddiskstep)]) hg24 bdk bdk (OwnL.ow (Ow.ownl q11_5 rfl mnil) rfl) (OwnL.ow (Ow.ownl q11_6 rfl mnil) rfl) (OwnL.ow (Ow.ownl q11_7 rfl mnil) rfl) (OwnL.ow (Ow.ownl q11_8 rfl mnil) rfl) ho23)) (fun mc24 ho24 => ?_)
          refine VO.k9 0 1 2 7 8 12 16 19 22 ?_
          refine outN ?_
          refine VC.reg ?_
          refine VO.mv ?_
          refine VO.mv ?_
          obtain ⟨A25, hA25, hs25⟩ := h_b.drop 1 ((min ((b.length : Nat) : Int) 64).toNat) rfl bd
          refine VO.y rfl (.slLI ((min ((b.length : Nat) : Int) 64).toNat) A25 rfl rfl tsl97 bd hA25 bd) ?_
          refine VO.as ?_
          refine VO.kp [124, 0] [(124, mc24), (0, mout (wm W) (m0))] ?_
          refine VO.k9 0 1 2 7 8 12 16 19 22 ?_
          refine outBN ?_
          have hrl26 : b.length - ((min ((b.length : Nat) : Int) 64).toNat) = (b.drop ((min ((b.length : Nat) : Int) 64).toNat)).length := by simp only [List.length_drop, List.length_take]; try omega
          rw [hrl26]
          exact outN ⟨⟨(((burnD d).1).1, ((burnD d).1).2.1, ((burnD d).1).2.2.1, ((burnD d).1).2.2.2.1, ((burnD d).1).2.2.2.2.1, (((burnD d).1).2.2.2.2.2.1), (((burnD d).1).2.2.2.2.2.2) ++ [((0, d1, (b).take ((min ((b.length : Nat) : Int) 64).toNat), 0) : Ddiskstep)]), mc24, b.drop ((min ((b.length : Nat) : Int) 64).toNat), A25, b_c - ((min ((b.length : Nat) : Int) 64).toNat), n - 1⟩, ⟨by exact write_step hp hn (by omega) (Decidable.not_not.1 ‹¬ ¬ (burnD d).2 = true›) (by omega), by (simp only [List.length_drop]; omega), by exact step_ok hok (Decidable.not_not.1 ‹¬ ¬ inF d1›) (by omega) (by omega), by exact Nat.le_trans (step_w (f := d1) (b := b) (m := (min ((b.length : Nat) : Int) 64).toNat) hok (by omega) (by omega)) hw, (Rd.relen hs25 rfl), ho24⟩, by (simp only [List.length_drop]; omega), ⟨⟨rfl, rfl, rfl, rfl, rfl, rfl, trivial⟩, fun _ h => Inv.sub (Inv.num h 124 1 rfl) [1, 0]⟩⟩
      · -- FFF
        refine VC.exit ?_
        refine outE ?_
        refine outE ?_
        refine outBB ?_
        refine outN ?_
        refine VC.rs ?_
        refine VO.as ?_
        refine VO.kp [1, 0] [(1, d_m), (0, mout (wm W) (m0))] ?_
        refine VO.k8 0 1 2 6 7 12 16 19 ?_
        refine VC.ret ?_
        refine ⟨_, _, res_run (rs := [.tmp 6]) rfl (.tmp rfl .nil), fun W_ hI => out_of (l := [d_m]) hI [1] rfl rfl (mle_refl _) (fun hS_ => ?_)⟩
        dsimp only [packV]
        have hm0_ : ((dWrite d0 d1 d2).1 : DdiskDisk) = d := by first | rfl | (exact fin0_dWrite_ok)
        refine ⟨?_, ?_⟩
        rotate_left
        · rw [hm0_]; exact (Ow.up h_d (hS_.1 _ (.head _)))
        all_goals (first | rfl | (exact fin0_dWrite_ok))
theorem fin0_dCut_ok {P : Prop} (h : P := by first | (rw [cut_bad1 (by assumption)] <;> rfl) | (rw [cut_bad2 (by assumption) (.inl (by assumption))] <;> rfl) | (rw [cut_bad2 (by assumption) (.inr (.inl (by assumption)))] <;> rfl) | (rw [cut_bad2 (by assumption) (.inr (.inr (by assumption)))] <;> rfl) | (rw [cut_go (by assumption) (by assumption) (by assumption) (by assumption) (by assumption)] <;> rfl) | (rw [cut_off (by assumption) (by assumption) (by assumption) (by assumption) (by assumption)] <;> rfl)) : P := h
theorem dCut_ok (W : World) {m0 : Mem} (hm : mle (m0) (wm W)) {g0 : Nat} {d0 : DdiskDisk} (h0 : Ow (.ptr TdiskDisk) m0 [.pointer (some ⟨g0, 0, none⟩)] (g0, d0)) (d1 : Int) (h1 : inK .i64 d1) (d2 : Int) (h2 : inK .i64 d2) (e0 : okD d0) (e1 : wD d0 ≤ 1000000000000) : CallR Tryz.prog 53 [.pointer (some ⟨g0, 0, none⟩), .int .i64 d1, .int .i64 d2] W (m0) (fun v m' => v = .int .i64 ((dCut d0 d1 d2).2) ∧ Ow (.ptr TdiskDisk) m' [.pointer (some ⟨g0, 0, none⟩)] (g0, (dCut d0 d1 d2).1)) := by
  have h1' := h1; simp only [inK] at h1'
  have h2' := h2; simp only [inK] at h2'
  refine CallR.ofB (n := 43) hm Tryz.func53 rfl rfl rfl ?_
  refine VC.rs ?_
  refine VO.as ?_
  refine VO.k4 0 1 2 6 ?_
  refine VC.seq ?_
  refine VC.rs ?_
  refine VO.mv ?_
  refine VO.call 1 rfl fnOk63 rfl rfl (fun W hW => dWrong_ok W (hW.at (i := 1) rfl) h0) (fun v1 m1 hv1 => ?_)
  obtain ⟨rfl, w1_0⟩ := hv1
  refine VO.as ?_
  refine VO.k5 0 1 2 6 7 ?_
  refine VC.rs ?_
  refine VO.mv ?_
  refine VO.y rfl (.neq rfl rfl) ?_
  refine VO.kp [1, 0] [(1, m1), (0, mout (wm W) (m0))] ?_
  refine VO.k6 0 1 2 6 7 11 ?_
  refine VC.cond rfl (fun hc2 => ?_) (fun hc2 => ?_)
  · -- T
    refine VC.rs ?_
    refine VO.mv ?_
    refine VO.as ?_
    refine VO.k6 0 1 2 6 7 11 ?_
    refine VC.ret ?_
    refine outR ?_
    refine ⟨_, _, res_run (rs := [.tmp 6]) rfl (.tmp rfl .nil), fun W_ hI => out_of (l := [m1]) hI [1] rfl rfl (mle_refl _) (fun hS_ => ?_)⟩
    dsimp only [packV]
    have hm0_ : ((dCut d0 d1 d2).1 : DdiskDisk) = d0 := by first | rfl | (exact fin0_dCut_ok)
    refine ⟨?_, ?_⟩
    rotate_left
    · rw [hm0_]; exact (Ow.up w1_0 (hS_.1 _ (.head _)))
    all_goals (first | rfl | (exact fin0_dCut_ok))
  · -- F
    refine VC.skip ?_
    refine outN ?_
    refine VC.seq ?_
    refine VC.rs ?_
    refine VO.mv ?_
    refine VO.callN 103 rfl fnOk98 rfl (fun W hW => dIs_ok W d1 bdk) (fun v3 m3 hv3 => ?_)
    subst hv3
    refine VO.y rfl (.notD rfl) ?_
    refine VO.mv ?_
    refine VO.dec (t := 16) rfl (fun hc4 => ?_) (fun hc4 => ?_)
    · -- FT
      refine VO.gN ?_
      refine VO.gN ?_
      refine VO.y rfl (.pT rfl rfl) ?_
      refine VO.mv ?_
      refine VO.gN ?_
      refine VO.gN ?_
      refine VO.gN ?_
      refine VO.gN ?_
      refine VO.gN ?_
      refine VO.gN ?_
      refine VO.y rfl (.pT rfl rfl) ?_
      refine VO.k7 0 1 2 6 7 11 27 ?_
      refine VC.condT rfl ?_
      refine VC.rs ?_
      refine VO.as ?_
      refine VO.k7 0 1 2 6 7 11 27 ?_
      refine VC.ret ?_
      refine outR ?_
      refine ⟨_, _, res_run (rs := [.tmp 6]) rfl (.tmp rfl .nil), fun W_ hI => out_of (l := [m1]) hI [1] rfl rfl (mle_refl _) (fun hS_ => ?_)⟩
      dsimp only [packV]
      have hm0_ : ((dCut d0 d1 d2).1 : DdiskDisk) = d0 := by first | rfl | (exact fin0_dCut_ok)
      refine ⟨?_, ?_⟩
      rotate_left
      · rw [hm0_]; exact (Ow.up w1_0 (hS_.1 _ (.head _)))
      all_goals (first | rfl | (exact fin0_dCut_ok))
    · -- FF
      refine VO.gy rfl ⟨_, rfl, rfl⟩ (.mv rfl) ?_
      refine VO.gy rfl ⟨_, rfl, rfl⟩ (.lss rfl rfl) ?_
      refine VO.y rfl (.pF rfl rfl) ?_
      refine VO.mv ?_
      refine VO.dec (t := 20) rfl (fun hc5 => ?_) (fun hc5 => ?_)
      · -- FFT
        refine VO.gN ?_
        refine VO.gN ?_
        refine VO.gN ?_
        refine VO.gN ?_
        refine VO.gN ?_
        refine VO.gN ?_
        refine VO.y rfl (.pT rfl rfl) ?_
        refine VO.k7 0 1 2 6 7 11 27 ?_
        refine VC.condT rfl ?_
        refine VC.rs ?_
        refine VO.as ?_
        refine VO.k7 0 1 2 6 7 11 27 ?_
        refine VC.ret ?_
        refine outR ?_
        refine ⟨_, _, res_run (rs := [.tmp 6]) rfl (.tmp rfl .nil), fun W_ hI => out_of (l := [m1]) hI [1] rfl rfl (mle_refl _) (fun hS_ => ?_)⟩
        dsimp only [packV]
        have hm0_ : ((dCut d0 d1 d2).1 : DdiskDisk) = d0 := by first | rfl | (exact fin0_dCut_ok)
        refine ⟨?_, ?_⟩
        rotate_left
        · rw [hm0_]; exact (Ow.up w1_0 (hS_.1 _ (.head _)))
        all_goals (first | rfl | (exact fin0_dCut_ok))
      · -- FFF
        refine VO.gy rfl ⟨_, rfl, rfl⟩ (.mv rfl) ?_
        refine VO.gy rfl ⟨_, rfl, rfl⟩ (.mv rfl) ?_
        refine VO.gy rfl ⟨_, rfl, rfl⟩ (.mv rfl) ?_
        refine VO.gcall 1 rfl ⟨_, rfl, rfl⟩ fnOk99 rfl rfl (fun W hW => dHeld_ok W (hW.at (i := 1) rfl) w1_0 d1 bdk (by assumption) bd (by first | assumption | (apply Decidable.not_not.1; assumption))) (fun v6 m6 hv6 => ?_)
        obtain ⟨s6_0, p6_0, p6_1, rfl, hS6, f6_0, w6_0⟩ := hv6
        refine VO.inv _ (fun _ h => h.parts (i := 1) rfl hS6 [107, 108]) ?_
        have hfa9 := heldB_size d0.2.2.2.2.2.1 d0.2.2.2.2.2.2 d1
        obtain ⟨A6_0, c6_0, eq6_0, l6_0, k6_0⟩ := f6_0.slice
        subst eq6_0
        simp only [maxLen] at k6_0
        refine VO.gy rfl ⟨_, rfl, rfl⟩ (.lenS rfl tsl97) ?_
        refine VO.gy rfl ⟨_, rfl, rfl⟩ (.gtr rfl rfl) ?_
        refine VO.y rfl (.pF rfl rfl) ?_
        refine VO.k7 0 1 2 6 7 11 27 ?_
        refine VC.cond rfl (fun hc10 => ?_) (fun hc10 => ?_)
        · -- FFFT
          refine VC.rs ?_
          refine VO.as ?_
          refine VO.k7 0 1 2 6 7 11 27 ?_
          refine VC.ret ?_
          refine outR ?_
          refine ⟨_, _, res_run (rs := [.tmp 6]) rfl (.tmp rfl .nil), fun W_ hI => out_of (l := [p6_1]) hI [108] rfl rfl (mle_refl _) (fun hS_ => ?_)⟩
          dsimp only [packV]
          have hm0_ : ((dCut d0 d1 d2).1 : DdiskDisk) = d0 := by first | rfl | (exact fin0_dCut_ok)
          refine ⟨?_, ?_⟩
          rotate_left
          · rw [hm0_]; exact (Ow.up w6_0 (hS_.1 _ (.head _)))
          all_goals (first | rfl | (exact fin0_dCut_ok))
        · -- FFFF
          refine VC.skip ?_
          refine outN ?_
          refine VC.seq ?_
          refine VC.rs ?_
          refine VO.mv ?_
          refine VO.call 108 rfl fnOk102 rfl rfl (fun W hW => dBurn_ok W (hW.at (i := 108) rfl) w6_0 (by assumption) bd) (fun v11 m11 hv11 => ?_)
          obtain ⟨rfl, w11_0⟩ := hv11
          have hfa12 := (burn_ok (show okD d0 by assumption))
          have hfa13 := (burn_w (show okD d0 by assumption))
          have hfa14 := (len_w (burnD d0).1)
          refine VO.y rfl (.notD rfl) ?_
          refine VO.k8 0 1 2 6 7 11 27 30 ?_
          refine VC.cond rfl (fun hc15 => ?_) (fun hc15 => ?_)
          · -- FFFFT
            refine VC.rs ?_
            refine VO.as ?_
            refine VO.kp [108, 0] [(108, m11), (0, mout (wm W) (m0))] ?_
            refine VO.k8 0 1 2 6 7 11 27 30 ?_
            refine VC.ret ?_
            refine outR ?_
            refine ⟨_, _, res_run (rs := [.tmp 6]) rfl (.tmp rfl .nil), fun W_ hI => out_of (l := [m11]) hI [108] rfl rfl (mle_refl _) (fun hS_ => ?_)⟩
            dsimp only [packV]
            have hm0_ : ((dCut d0 d1 d2).1 : DdiskDisk) = (burnD d0).1 := by first | rfl | (exact fin0_dCut_ok)
            refine ⟨?_, ?_⟩
            rotate_left
            · rw [hm0_]; exact (Ow.up w11_0 (hS_.1 _ (.head _)))
            all_goals (first | rfl | (exact fin0_dCut_ok))
          · -- FFFFF
            refine VC.skip ?_
            refine outN ?_
            refine VC.rs ?_
            refine VO.mv ?_
            refine VO.mv ?_
            refine VO.y rfl (.nilp rfl) ?_
            refine VO.y rfl (.fa rfl tst101 rfl) ?_
            obtain ⟨q16_E, q16_A5, q16_c5, q16_A6, q16_c6, q16_A7, q16_c7, q16_A8, q16_c8, q16_A9, q16_c9, q16_n5, q16_n6, q16_n7, q16_n8, q16_n9, _, q16_S, q16_3, q16_4, q16_5, q16_6, q16_7, q16_8, q16_9⟩ := openP_diskDisk (x0 := ((burnD d0).1).1) (x1 := ((burnD d0).1).2.1) (x2 := ((burnD d0).1).2.2.1) (x3 := ((burnD d0).1).2.2.2.1) (x4 := ((burnD d0).1).2.2.2.2.1) (x5 := (((burnD d0).1).2.2.2.2.2.1).1) (x6 := (((burnD d0).1).2.2.2.2.2.1).2.1) (x7 := (((burnD d0).1).2.2.2.2.2.1).2.2.1) (x8 := (((burnD d0).1).2.2.2.2.2.1).2.2.2) (x9 := ((burnD d0).1).2.2.2.2.2.2) w11_0
            simp only [inK] at q16_3
            simp only [inK] at q16_4
            have q16_r5 := q16_5.rm
            have q16_r6 := q16_6.rm
            have q16_r7 := q16_7.rm
            have q16_r8 := q16_8.rm
            have q16_r9 := q16_9.rm
            refine VO.inv _ (fun _ h => h.parts (i := 108) rfl q16_S [122, 117, 118, 119, 120, 121]) ?_
            refine VO.y rfl (.ld1 122 rfl tk99 rfl (cellsAt_one rfl rfl)) ?_
            refine VO.mv ?_
            refine VO.mv ?_
            refine VO.y rfl (.bst (cs := [Value.int .i64 (1), Value.int .i64 (d1), Value.slice none (0) (0), Value.int .i64 (d2)]) rfl tst148 tz148 rfl) ?_
            refine VO.bsl (cs := [Value.int .i64 (1), Value.int .i64 (d1), Value.slice none (0) (0), Value.int .i64 (d2)]) 124 rfl rfl tsl99 tz148 rfl rfl (fun g23 => ?_)
            refine VO.inv ((126, mnil) :: _) (fun _ h => h.nilc 126) ?_
            refine VO.appO (e := Tdiskstep) 121 126 124 rfl rfl rfl tsl99 tz148 rfl rfl rfl rfl q16_9 (mkO_diskstep 1 d1 [] d2 (Seps.nilAt 0 (Seps.nil _)) bdk bdk (Ow.nil _ _) bdk) Tryz.underlying99 (cellsAt_one rfl rfl) bdm bd (by decide) (fun v25 m25 ho25 => ?_)
            obtain ⟨A25, c25, rfl, l25, k25⟩ := ho25.slice
            simp only [maxLen] at k25
            refine VO.y rfl (.nilp rfl) ?_
            refine VO.y rfl (.fa rfl tst101 rfl) ?_
            refine VO.store (k := 1) 122 rfl rfl (.inr ⟨tk99, rfl⟩) rfl rfl rfl rfl rfl ?_
            refine VO.clsP 127 [122, 117, 118, 119, 120, 121] rfl (fun hg27 => (mkP_diskDisk (((burnD d0).1).1) (((burnD d0).1).2.1) (((burnD d0).1).2.2.1) (((burnD d0).1).2.2.2.1) (((burnD d0).1).2.2.2.2.1) ((((burnD d0).1).2.2.2.2.2.1).1) ((((burnD d0).1).2.2.2.2.2.1).2.1) ((((burnD d0).1).2.2.2.2.2.1).2.2.1) ((((burnD d0).1).2.2.2.2.2.1).2.2.2) ((((burnD d0).1).2.2.2.2.2.2) ++ [((1, d1, [], d2) : Ddiskstep)]) hg27 bdk bdk (OwnL.ow (Ow.ownl q16_5 rfl mnil) rfl) (OwnL.ow (Ow.ownl q16_6 rfl mnil) rfl) (OwnL.ow (Ow.ownl q16_7 rfl mnil) rfl) (OwnL.ow (Ow.ownl q16_8 rfl mnil) rfl) ho25)) (fun mc27 ho27 => ?_)
            refine VO.kp [127, 0] [(127, mc27), (0, mout (wm W) (m0))] ?_
            refine VO.k8 0 1 2 6 7 11 27 30 ?_
            refine VC.rs ?_
            refine VO.as ?_
            refine VO.k8 0 1 2 6 7 11 27 30 ?_
            refine VC.ret ?_
            refine ⟨_, _, res_run (rs := [.tmp 6]) rfl (.tmp rfl .nil), fun W_ hI => out_of (l := [mc27]) hI [127] rfl rfl (mle_refl _) (fun hS_ => ?_)⟩
            dsimp only [packV]
            have hm0_ : ((dCut d0 d1 d2).1 : DdiskDisk) = (((burnD d0).1).1, ((burnD d0).1).2.1, ((burnD d0).1).2.2.1, ((burnD d0).1).2.2.2.1, ((burnD d0).1).2.2.2.2.1, (((burnD d0).1).2.2.2.2.2.1), (((burnD d0).1).2.2.2.2.2.2) ++ [((1, d1, [], d2) : Ddiskstep)]) := by first | rfl | (exact fin0_dCut_ok)
            refine ⟨?_, ?_⟩
            rotate_left
            · rw [hm0_]; exact (Ow.up ho27 (hS_.1 _ (.head _)))
            all_goals (first | rfl | (exact fin0_dCut_ok))
theorem dSync_ok (W : World) {m0 : Mem} (hm : mle (m0) (wm W)) {g0 : Nat} {d0 : DdiskDisk} (h0 : Ow (.ptr TdiskDisk) m0 [.pointer (some ⟨g0, 0, none⟩)] (g0, d0)) (e0 : okD d0) (e1 : wD d0 ≤ 1000000000000) : CallR Tryz.prog 54 [.pointer (some ⟨g0, 0, none⟩)] W (m0) (fun v m' => v = .int .i64 ((dSync d0).2) ∧ Ow (.ptr TdiskDisk) m' [.pointer (some ⟨g0, 0, none⟩)] (g0, (dSync d0).1)) := by
  refine CallR.ofB (n := 19) hm Tryz.func54 rfl rfl rfl ?_
  refine VC.rs ?_
  refine VO.as ?_
  refine VO.k2 0 2 ?_
  refine VC.seq ?_
  refine VC.rs ?_
  refine VO.mv ?_
  refine VO.call 1 rfl fnOk63 rfl rfl (fun W hW => dWrong_ok W (hW.at (i := 1) rfl) h0) (fun v1 m1 hv1 => ?_)
  obtain ⟨rfl, w1_0⟩ := hv1
  refine VO.as ?_
  refine VO.k3 0 2 3 ?_
  refine VC.rs ?_
  refine VO.mv ?_
  refine VO.y rfl (.neq rfl rfl) ?_
  refine VO.kp [1, 0] [(1, m1), (0, mout (wm W) (m0))] ?_
  refine VO.k4 0 2 3 7 ?_
  refine VC.cond rfl (fun hc2 => ?_) (fun hc2 => ?_)
  · -- T
    refine VC.rs ?_
    refine VO.mv ?_
    refine VO.as ?_
    refine VO.k4 0 2 3 7 ?_
    refine VC.ret ?_
    refine outR ?_
    refine ⟨_, _, res_run (rs := [.tmp 2]) rfl (.tmp rfl .nil), fun W_ hI => out_of (l := [m1]) hI [1] rfl rfl (mle_refl _) (fun hS_ => ?_)⟩
    dsimp only [packV]
    have hm0_ : ((dSync d0).1 : DdiskDisk) = d0 := by first | rfl | (first | (rw [sync_bad (by assumption)] <;> rfl) | (rw [sync_off (by assumption) (by assumption)] <;> rfl) | (rw [sync_go (by assumption) (by assumption)] <;> rfl))
    refine ⟨?_, ?_⟩
    rotate_left
    · rw [hm0_]; exact (Ow.up w1_0 (hS_.1 _ (.head _)))
    all_goals (first | rfl | (first | (rw [sync_bad (by assumption)] <;> rfl) | (rw [sync_off (by assumption) (by assumption)] <;> rfl) | (rw [sync_go (by assumption) (by assumption)] <;> rfl)))
  · -- F
    refine VC.skip ?_
    refine outN ?_
    refine VC.seq ?_
    refine VC.rs ?_
    refine VO.mv ?_
    refine VO.call 1 rfl fnOk102 rfl rfl (fun W hW => dBurn_ok W (hW.at (i := 1) rfl) w1_0 (by assumption) bd) (fun v3 m3 hv3 => ?_)
    obtain ⟨rfl, w3_0⟩ := hv3
    have hfa4 := (burn_ok (show okD d0 by assumption))
    have hfa5 := (burn_w (show okD d0 by assumption))
    have hfa6 := (len_w (burnD d0).1)
    refine VO.y rfl (.notD rfl) ?_
    refine VO.k5 0 2 3 7 11 ?_
    refine VC.cond rfl (fun hc7 => ?_) (fun hc7 => ?_)
    · -- FT
      refine VC.rs ?_
      refine VO.as ?_
      refine VO.k5 0 2 3 7 11 ?_
      refine VC.ret ?_
      refine outR ?_
      refine ⟨_, _, res_run (rs := [.tmp 2]) rfl (.tmp rfl .nil), fun W_ hI => out_of (l := [m3]) hI [1] rfl rfl (mle_refl _) (fun hS_ => ?_)⟩
      dsimp only [packV]
      have hm0_ : ((dSync d0).1 : DdiskDisk) = (burnD d0).1 := by first | rfl | (first | (rw [sync_bad (by assumption)] <;> rfl) | (rw [sync_off (by assumption) (by assumption)] <;> rfl) | (rw [sync_go (by assumption) (by assumption)] <;> rfl))
      refine ⟨?_, ?_⟩
      rotate_left
      · rw [hm0_]; exact (Ow.up w3_0 (hS_.1 _ (.head _)))
      all_goals (first | rfl | (first | (rw [sync_bad (by assumption)] <;> rfl) | (rw [sync_off (by assumption) (by assumption)] <;> rfl) | (rw [sync_go (by assumption) (by assumption)] <;> rfl)))
    · -- FF
      refine VC.skip ?_
      refine outN ?_
      refine VC.rs ?_
      refine VO.mv ?_
      refine VO.mv ?_
      refine VO.y rfl (.nilp rfl) ?_
      refine VO.y rfl (.fa rfl tst101 rfl) ?_
      obtain ⟨q8_E, q8_A5, q8_c5, q8_A6, q8_c6, q8_A7, q8_c7, q8_A8, q8_c8, q8_A9, q8_c9, q8_n5, q8_n6, q8_n7, q8_n8, q8_n9, _, q8_S, q8_3, q8_4, q8_5, q8_6, q8_7, q8_8, q8_9⟩ := openP_diskDisk (x0 := ((burnD d0).1).1) (x1 := ((burnD d0).1).2.1) (x2 := ((burnD d0).1).2.2.1) (x3 := ((burnD d0).1).2.2.2.1) (x4 := ((burnD d0).1).2.2.2.2.1) (x5 := (((burnD d0).1).2.2.2.2.2.1).1) (x6 := (((burnD d0).1).2.2.2.2.2.1).2.1) (x7 := (((burnD d0).1).2.2.2.2.2.1).2.2.1) (x8 := (((burnD d0).1).2.2.2.2.2.1).2.2.2) (x9 := ((burnD d0).1).2.2.2.2.2.2) w3_0
      simp only [inK] at q8_3
      simp only [inK] at q8_4
      have q8_r5 := q8_5.rm
      have q8_r6 := q8_6.rm
      have q8_r7 := q8_7.rm
      have q8_r8 := q8_8.rm
      have q8_r9 := q8_9.rm
      refine VO.inv _ (fun _ h => h.parts (i := 1) rfl q8_S [114, 109, 110, 111, 112, 113]) ?_
      refine VO.y rfl (.ld1 114 rfl tk99 rfl (cellsAt_one rfl rfl)) ?_
      refine VO.y rfl (.lenS rfl tsl99) ?_
      refine VO.clsP 116 [114, 109, 110, 111, 112, 113] rfl (fun hg16 => (show Ow (.ptr TdiskDisk) _ _ (_, ((burnD d0).1)) from (mkP_diskDisk (((burnD d0).1).1) (((burnD d0).1).2.1) (((burnD d0).1).2.2.1) (((burnD d0).1).2.2.2.1) (((burnD d0).1).2.2.2.2.1) ((((burnD d0).1).2.2.2.2.2.1).1) ((((burnD d0).1).2.2.2.2.2.1).2.1) ((((burnD d0).1).2.2.2.2.2.1).2.2.1) ((((burnD d0).1).2.2.2.2.2.1).2.2.2) (((burnD d0).1).2.2.2.2.2.2) hg16 bdk bdk (OwnL.ow (Ow.ownl q8_5 rfl mnil) rfl) (OwnL.ow (Ow.ownl q8_6 rfl mnil) rfl) (OwnL.ow (Ow.ownl q8_7 rfl mnil) rfl) (OwnL.ow (Ow.ownl q8_8 rfl mnil) rfl) q8_9))) (fun mc16 ho16 => ?_)
      refine VO.call 116 rfl fnOk103 rfl rfl (fun W hW => dSettle_ok W (hW.at (i := 116) rfl) ho16 (((((burnD d0).1).2.2.2.2.2.2).length : Nat) : Int) bdk (by assumption) bd bd) (fun v15 m15 hv15 => ?_)
      obtain ⟨rfl, w15_0⟩ := hv15
      have hfa17 := (settle_ok (((((burnD d0).1).2.2.2.2.2.2).length : Nat) : Int).toNat (show okD ((burnD d0).1) by assumption))
      have hfa18 := (settle_w ((burnD d0).1) (((((burnD d0).1).2.2.2.2.2.2).length : Nat) : Int).toNat)
      refine VO.k5 0 2 3 7 11 ?_
      refine VC.rs ?_
      refine VO.as ?_
      refine VO.kp [116, 0] [(116, m15), (0, mout (wm W) (m0))] ?_
      refine VO.k5 0 2 3 7 11 ?_
      refine VC.ret ?_
      refine ⟨_, _, res_run (rs := [.tmp 2]) rfl (.tmp rfl .nil), fun W_ hI => out_of (l := [m15]) hI [116] rfl rfl (mle_refl _) (fun hS_ => ?_)⟩
      dsimp only [packV]
      have hm0_ : ((dSync d0).1 : DdiskDisk) = settleD ((burnD d0).1) (((((burnD d0).1).2.2.2.2.2.2).length : Nat) : Int).toNat := by first | rfl | (first | (rw [sync_bad (by assumption)] <;> rfl) | (rw [sync_off (by assumption) (by assumption)] <;> rfl) | (rw [sync_go (by assumption) (by assumption)] <;> rfl))
      refine ⟨?_, ?_⟩
      rotate_left
      · rw [hm0_]; exact (Ow.up w15_0 (hS_.1 _ (.head _)))
      all_goals (first | rfl | (first | (rw [sync_bad (by assumption)] <;> rfl) | (rw [sync_off (by assumption) (by assumption)] <;> rfl) | (rw [sync_go (by assumption) (by assumption)] <;> rfl)))
theorem dRead_ok (W : World) {m0 : Mem} (hm : mle (m0) (wm W)) {g0 : Nat} {d0 : DdiskDisk} (h0 : Ow (.ptr TdiskDisk) m0 [.pointer (some ⟨g0, 0, none⟩)] (g0, d0)) (d1 : Int) (h1 : inK .i64 d1) (e0 : okD d0) (e1 : wD d0 ≤ 1000000000000) : CallR Tryz.prog 51 [.pointer (some ⟨g0, 0, none⟩), .int .i64 d1] W (m0) (fun v m' => ∃ (s0 : Value), ∃ (p0 : Mem), ∃ (p1 : Mem), v = .tuple #[s0, .int .i64 ((dRead d0 d1).2)] ∧ Seps m' [p0, p1] ∧ Ow (.sl .byte) p0 [s0] ((dRead d0 d1).1) ∧ Ow (.ptr TdiskDisk) p1 [.pointer (some ⟨g0, 0, none⟩)] (g0, d0)) := by
  have h1' := h1; simp only [inK] at h1'
  refine CallR.ofB (n := 18) hm Tryz.func51 rfl rfl rfl ?_
  refine VC.rs ?_
  refine VO.as ?_
  refine VO.as ?_
  refine VO.k4 0 1 4 5 ?_
  refine VC.seq ?_
  refine VC.rs ?_
  refine VO.mv ?_
  refine VO.call 1 rfl fnOk63 rfl rfl (fun W hW => dWrong_ok W (hW.at (i := 1) rfl) h0) (fun v1 m1 hv1 => ?_)
  obtain ⟨rfl, w1_0⟩ := hv1
  refine VO.as ?_
  refine VO.k5 0 1 4 5 6 ?_
  refine VC.rs ?_
  refine VO.mv ?_
  refine VO.y rfl (.neq rfl rfl) ?_
  refine VO.kp [1, 0] [(1, m1), (0, mout (wm W) (m0))] ?_
  refine VO.k6 0 1 4 5 6 10 ?_
  refine VC.cond rfl (fun hc2 => ?_) (fun hc2 => ?_)
  · -- T
    refine VC.rs ?_
    refine VO.mv ?_
    refine VO.as ?_
    refine VO.as ?_
    refine VO.k6 0 1 4 5 6 10 ?_
    refine VC.ret ?_
    refine outR ?_
    refine ⟨_, _, res_run (rs := [.tmp 4, .tmp 5]) rfl (.tmp rfl (.tmp rfl .nil)), fun W_ hI => out_of (l := [m1]) hI [1] rfl rfl (mle_refl _) (fun hS_ => ?_)⟩
    dsimp only [packV]
    have he0 : ((dRead d0 d1).1 : Ty.Den (.sl .byte)) = [] := by first | rfl | (first | rfl | (simp [dRead, *]; done))
    have hm0_ : (d0 : DdiskDisk) = d0 := by first | rfl | (first | rfl | (simp [dRead, *]; done))
    refine ⟨Value.slice none (0) (0), muns [], muns [m1], ?_, ?_, ?_, ?_⟩
    rotate_left
    · exact Seps.grp (ls := [[], [m1]]) hS_
    · rw [he0]; exact (Ow.nil _ _)
    · rw [hm0_]; exact (Ow.up w1_0 ((Seps.self hS_ (List.Sublist.cons_cons _ List.Sublist.slnil)).1 _ (.head _)))
    all_goals (first | rfl | (first | rfl | (simp [dRead, *]; done)))
  · -- F
    refine VC.skip ?_
    refine outN ?_
    refine VC.seq ?_
    refine VC.rs ?_
    refine VO.mv ?_
    refine VO.callN 103 rfl fnOk98 rfl (fun W hW => dIs_ok W d1 bdk) (fun v3 m3 hv3 => ?_)
    subst hv3
    refine VO.y rfl (.notD rfl) ?_
    refine VO.k7 0 1 4 5 6 10 14 ?_
    refine VC.cond rfl (fun hc4 => ?_) (fun hc4 => ?_)
    · -- FT
      refine VC.rs ?_
      refine VO.as ?_
      refine VO.as ?_
      refine VO.k7 0 1 4 5 6 10 14 ?_
      refine VC.ret ?_
      refine outR ?_
      refine ⟨_, _, res_run (rs := [.tmp 4, .tmp 5]) rfl (.tmp rfl (.tmp rfl .nil)), fun W_ hI => out_of (l := [m1]) hI [1] rfl rfl (mle_refl _) (fun hS_ => ?_)⟩
      dsimp only [packV]
      have he0 : ((dRead d0 d1).1 : Ty.Den (.sl .byte)) = [] := by first | rfl | (first | rfl | (simp [dRead, *]; done))
      have hm0_ : (d0 : DdiskDisk) = d0 := by first | rfl | (first | rfl | (simp [dRead, *]; done))
      refine ⟨Value.slice none (0) (0), muns [], muns [m1], ?_, ?_, ?_, ?_⟩
      rotate_left
      · exact Seps.grp (ls := [[], [m1]]) hS_
      · rw [he0]; exact (Ow.nil _ _)
      · rw [hm0_]; exact (Ow.up w1_0 ((Seps.self hS_ (List.Sublist.cons_cons _ List.Sublist.slnil)).1 _ (.head _)))
      all_goals (first | rfl | (first | rfl | (simp [dRead, *]; done)))
    · -- FF
      refine VC.skip ?_
      refine outN ?_
      refine VC.rs ?_
      refine VO.mv ?_
      refine VO.mv ?_
      refine VO.call 1 rfl fnOk99 rfl rfl (fun W hW => dHeld_ok W (hW.at (i := 1) rfl) w1_0 d1 bdk (by assumption) bd (by first | assumption | (apply Decidable.not_not.1; assumption))) (fun v5 m5 hv5 => ?_)
      obtain ⟨s5_0, p5_0, p5_1, rfl, hS5, f5_0, w5_0⟩ := hv5
      refine VO.inv _ (fun _ h => h.parts (i := 1) rfl hS5 [106, 107]) ?_
      have hfa8 := heldB_size d0.2.2.2.2.2.1 d0.2.2.2.2.2.2 d1
      obtain ⟨A5_0, c5_0, eq5_0, l5_0, k5_0⟩ := f5_0.slice
      subst eq5_0
      simp only [maxLen] at k5_0
      refine VO.as ?_
      refine VO.as ?_
      refine VO.k7 0 1 4 5 6 10 14 ?_
      refine VC.ret ?_
      refine ⟨_, _, res_run (rs := [.tmp 4, .tmp 5]) rfl (.tmp rfl (.tmp rfl .nil)), fun W_ hI => out_of (l := [p5_0, p5_1]) hI [106, 107] rfl rfl (mle_refl _) (fun hS_ => ?_)⟩
      dsimp only [packV]
      have he0 : ((dRead d0 d1).1 : Ty.Den (.sl .byte)) = heldB d0.2.2.2.2.2.1 d0.2.2.2.2.2.2 d1 := by first | rfl | (first | rfl | (simp [dRead, *]; done))
      have hm0_ : (d0 : DdiskDisk) = d0 := by first | rfl | (first | rfl | (simp [dRead, *]; done))
      refine ⟨Value.slice A5_0 ((heldB d0.2.2.2.2.2.1 d0.2.2.2.2.2.2 d1).length) (c5_0), muns [p5_0], muns [p5_1], ?_, ?_, ?_, ?_⟩
      rotate_left
      · exact Seps.grp (ls := [[p5_0], [p5_1]]) hS_
      · rw [he0]; exact (Ow.up (OwnL.ow (Ow.ownl f5_0 rfl mnil) rfl) ((Seps.self hS_ (List.Sublist.cons_cons _ (List.Sublist.cons _ List.Sublist.slnil))).1 _ (.head _)))
      · rw [hm0_]; exact (Ow.up w5_0 ((Seps.self hS_ (List.Sublist.cons _ (List.Sublist.cons_cons _ List.Sublist.slnil))).1 _ (.head _)))
      all_goals (first | rfl | (first | rfl | (simp [dRead, *]; done)))
theorem dOn_ok (W : World) {m0 : Mem} (hm : mle (m0) (wm W)) {g0 : Nat} {d0 : DdiskDisk} (h0 : Ow (.ptr TdiskDisk) m0 [.pointer (some ⟨g0, 0, none⟩)] (g0, d0)) : CallR Tryz.prog 81 [.pointer (some ⟨g0, 0, none⟩)] W (m0) (fun v m' => v = .bool (decide (d0.1 = true ∧ d0.2.1 = false)) ∧ Ow (.ptr TdiskDisk) m' [.pointer (some ⟨g0, 0, none⟩)] (g0, d0)) := by
  refine CallR.ofB (n := 13) hm Tryz.func81 rfl rfl rfl ?_
  refine VC.rs ?_
  refine VO.as ?_
  refine VO.k2 0 2 ?_
  refine VC.rs ?_
  refine VO.mv ?_
  refine VO.call 1 rfl fnOk79 rfl rfl (fun W hW => dNone_ok W (hW.at (i := 1) rfl) h0) (fun v1 m1 hv1 => ?_)
  obtain ⟨rfl, w1_0⟩ := hv1
  refine VO.y rfl (.notD rfl) ?_
  refine VO.mv ?_
  refine VO.dec (t := 6) rfl (fun hc2 => ?_) (fun hc2 => ?_)
  · -- T
    refine VO.gy rfl ⟨_, rfl, rfl⟩ (.mv rfl) ?_
    refine VO.gy rfl ⟨_, rfl, rfl⟩ (.nilp rfl) ?_
    refine VO.gy rfl ⟨_, rfl, rfl⟩ (.fa rfl tst101 rfl) ?_
    obtain ⟨q3_E, q3_A5, q3_c5, q3_A6, q3_c6, q3_A7, q3_c7, q3_A8, q3_c8, q3_A9, q3_c9, q3_n5, q3_n6, q3_n7, q3_n8, q3_n9, _, q3_S, q3_3, q3_4, q3_5, q3_6, q3_7, q3_8, q3_9⟩ := openP_diskDisk (x0 := d0.1) (x1 := d0.2.1) (x2 := d0.2.2.1) (x3 := d0.2.2.2.1) (x4 := d0.2.2.2.2.1) (x5 := d0.2.2.2.2.2.1.1) (x6 := d0.2.2.2.2.2.1.2.1) (x7 := d0.2.2.2.2.2.1.2.2.1) (x8 := d0.2.2.2.2.2.1.2.2.2) (x9 := d0.2.2.2.2.2.2) w1_0
    simp only [inK] at q3_3
    simp only [inK] at q3_4
    have q3_r5 := q3_5.rm
    have q3_r6 := q3_6.rm
    have q3_r7 := q3_7.rm
    have q3_r8 := q3_8.rm
    have q3_r9 := q3_9.rm
    refine VO.inv _ (fun _ h => h.parts (i := 1) rfl q3_S [109, 104, 105, 106, 107, 108]) ?_
    refine VO.gy rfl ⟨_, rfl, rfl⟩ (.ld1 109 rfl tk4 rfl (cellsAt_one rfl rfl)) ?_
    refine VO.gy rfl ⟨_, rfl, rfl⟩ (.not rfl) ?_
    refine VO.y rfl (.pT rfl rfl) ?_
    refine VO.as ?_
    refine VO.clsP 110 [109, 104, 105, 106, 107, 108] rfl (fun hg10 => (show Ow (.ptr TdiskDisk) _ _ (_, d0) from (mkP_diskDisk d0.1 d0.2.1 d0.2.2.1 d0.2.2.2.1 d0.2.2.2.2.1 d0.2.2.2.2.2.1.1 d0.2.2.2.2.2.1.2.1 d0.2.2.2.2.2.1.2.2.1 d0.2.2.2.2.2.1.2.2.2 d0.2.2.2.2.2.2 hg10 bdk bdk (OwnL.ow (Ow.ownl q3_5 rfl mnil) rfl) (OwnL.ow (Ow.ownl q3_6 rfl mnil) rfl) (OwnL.ow (Ow.ownl q3_7 rfl mnil) rfl) (OwnL.ow (Ow.ownl q3_8 rfl mnil) rfl) q3_9))) (fun mc10 ho10 => ?_)
    refine VO.k2 0 2 ?_
    refine VC.ret ?_
    refine ⟨_, _, res_run (rs := [.tmp 2]) rfl (.tmp rfl .nil), fun W_ hI => out_of (l := [mc10]) hI [110] rfl rfl (mle_refl _) (fun hS_ => ?_)⟩
    dsimp only [packV]
    have hm0_ : (d0 : DdiskDisk) = d0 := by first | rfl | (simp [*]; done)
    refine ⟨?_, ?_⟩
    rotate_left
    · rw [hm0_]; exact (Ow.up ho10 (hS_.1 _ (.head _)))
    all_goals (first | rfl | (cases h1_ : d0.1 <;> cases h2_ : d0.2.1 <;> simp_all))
  · -- F
    refine VO.gN ?_
    refine VO.gN ?_
    refine VO.gN ?_
    refine VO.gN ?_
    refine VO.gN ?_
    refine VO.y rfl (.pF rfl rfl) ?_
    refine VO.as ?_
    refine VO.k2 0 2 ?_
    refine VC.ret ?_
    refine ⟨_, _, res_run (rs := [.tmp 2]) rfl (.tmp rfl .nil), fun W_ hI => out_of (l := [m1]) hI [1] rfl rfl (mle_refl _) (fun hS_ => ?_)⟩
    dsimp only [packV]
    have hm0_ : (d0 : DdiskDisk) = d0 := by first | rfl | (simp [*]; done)
    refine ⟨?_, ?_⟩
    rotate_left
    · rw [hm0_]; exact (Ow.up w1_0 (hS_.1 _ (.head _)))
    all_goals (first | rfl | (cases h1_ : d0.1 <;> cases h2_ : d0.2.1 <;> simp_all))
abbrev TrunRuns : Ty := .pair (.ptr TdiskDisk) (.pair .bool (.sl TRun))
abbrev DrunRuns := (Nat × DdiskDisk) × Bool × (List DRun)
theorem open_runRuns {m : Mem} {cs : List Value} {x0 : Nat × DdiskDisk} {x1 : Bool} {x2 : List DRun} (h : Rd TrunRuns m cs (x0, x1, x2)) : ∃ (A2 : Option Addr), ∃ (c2 : Nat), cs = [(.pointer (some ⟨x0.1, 0, none⟩) : Value), .bool x1, .slice A2 x2.length c2] ∧ Rd (.ptr TdiskDisk) m [.pointer (some ⟨x0.1, 0, none⟩)] x0 ∧ Rd (.sl TRun) m [.slice A2 x2.length c2] x2 := by
  obtain ⟨p1, q1, rfl, u1, w1⟩ := Rd.pair h
  have z2 := u1
  obtain ⟨rfl, _⟩ := u1
  obtain ⟨p3, q3, rfl, u3, w3⟩ := Rd.pair w1
  obtain rfl := (show _ = _ from u3)
  have z5 := w3
  obtain ⟨A5, c5, rfl, _⟩ := Rd.slice1 w3
  exact ⟨A5, c5, rfl, z2, z5⟩
theorem openO_runRuns {m : Mem} {cs : List Value} {x0 : Nat × DdiskDisk} {x1 : Bool} {x2 : List DRun} (h : Ow TrunRuns m cs (x0, x1, x2)) : ∃ (A2 : Option Addr), ∃ (c2 : Nat), ∃ (n0 : Mem), ∃ (n2 : Mem), cs = [(.pointer (some ⟨x0.1, 0, none⟩) : Value), .bool x1, .slice A2 x2.length c2] ∧ Seps m [n0, n2] ∧ Ow (.ptr TdiskDisk) n0 [.pointer (some ⟨x0.1, 0, none⟩)] x0 ∧ Ow (.sl TRun) n2 [.slice A2 x2.length c2] x2 := by
  obtain ⟨p1, q1, ma1, mb1, rfl, dj1, la1, lb1, u1, w1⟩ := Ow.pair h
  have z2 := u1
  obtain ⟨rfl, _⟩ := u1
  obtain ⟨p3, q3, ma3, mb3, rfl, dj3, la3, lb3, u3, w3⟩ := Ow.pair w1
  obtain rfl := (show _ = _ from u3)
  have z5 := w3
  obtain ⟨A5, c5, rfl, _⟩ := Ow.slice1 w3
  exact ⟨A5, c5, _, _, rfl, (Seps.app dj1 la1 lb1 (Seps.one (mle_refl _)) (Seps.app dj3 la3 lb3 (Seps.nil _) (Seps.one (mle_refl _)))), z2, z5⟩
theorem mkO_runRuns {m : Mem} {n0 n2 : Mem} (x0 : Nat × DdiskDisk) (x1 : Bool) (x2 : List DRun) (hS : Seps m [n0, n2]) {v0 : Value} (h0 : Ow (.ptr TdiskDisk) n0 [v0] x0) {v2 : Value} (h2 : Ow (.sl TRun) n2 [v2] x2) : Ow TrunRuns m [v0, .bool x1, v2] (x0, x1, x2) := by
  obtain ⟨e1, la1, lb1, Sa1, Sb1⟩ := Seps.cut (l := [n0]) (r := [n2]) hS
  obtain ⟨e2, la2, lb2, Sa2, Sb2⟩ := Seps.cut (l := []) (r := [n2]) Sb1
  exact (Ow.mkPair (c1 := [_]) e1 la1 lb1 (h0.up (Sa1.1 _ (.head _))) (Ow.mkPair (c1 := [_]) e2 la2 lb2 (show Ow .bool _ [_] _ from rfl) (h2.up (Sb2.1 _ (.head _)))))
theorem openP_runRuns {m : Mem} {cs : List Value} {g : Nat} {x0 : Nat × DdiskDisk} {x1 : Bool} {x2 : List DRun} (h : Ow (.ptr TrunRuns) m cs (g, (x0, x1, x2))) : ∃ (E : TypeId), ∃ (A2 : Option Addr), ∃ (c2 : Nat), ∃ (n0 : Mem), ∃ (n2 : Mem), cs = [.pointer (some ⟨g, 0, none⟩)] ∧ Seps m [mone g (.cells [(.pointer (some ⟨x0.1, 0, none⟩) : Value), .bool x1, .slice A2 x2.length c2].toArray E (0, 0)), n0, n2] ∧ Ow (.ptr TdiskDisk) n0 [.pointer (some ⟨x0.1, 0, none⟩)] x0 ∧ Ow (.sl TRun) n2 [.slice A2 x2.length c2] x2 := by
  obtain ⟨rfl, rc, E, m1, hd, l0, l1, h1⟩ := Ow.opnP h
  obtain ⟨A2, c2, n0, n2, rfl, hS, f0, f2⟩ := openO_runRuns h1
  exact ⟨E, A2, c2, n0, n2, rfl, Seps.app hd l0 l1 (Seps.one (mle_refl _)) hS, f0, f2⟩
theorem mkP_runRuns {m : Mem} {g : Nat} {E : TypeId} {n0 n2 : Mem}{v0 : Value}{v2 : Value} (x0 : Nat × DdiskDisk) (x1 : Bool) (x2 : List DRun) (hS : Seps m [mone g (.cells [v0, .bool x1, v2].toArray E (0, 0)), n0, n2]) (h0 : Ow (.ptr TdiskDisk) n0 [v0] x0) (h2 : Ow (.sl TRun) n2 [v2] x2) : Ow (.ptr TrunRuns) m [.pointer (some ⟨g, 0, none⟩)] (g, (x0, x1, x2)) :=
  Ow.clsP hS fun hS => mkO_runRuns x0 x1 x2 hS h0 h2
abbrev DrunRuns0 := (Option Nat) × Bool × (List DRun)
theorem fnOk21 : fnOk Tryz.prog 21 = true := by kernel_rfl
theorem fnOk51 : fnOk Tryz.prog 51 = true := by kernel_rfl
theorem fnOk52 : fnOk Tryz.prog 52 = true := by kernel_rfl
theorem fnOk53 : fnOk Tryz.prog 53 = true := by kernel_rfl
theorem fnOk54 : fnOk Tryz.prog 54 = true := by kernel_rfl
theorem fnOk55 : fnOk Tryz.prog 55 = true := by kernel_rfl
theorem fnOk81 : fnOk Tryz.prog 81 = true := by kernel_rfl
theorem fnOk82 : fnOk Tryz.prog 82 = true := by kernel_rfl
theorem fnOk83 : fnOk Tryz.prog 83 = true := by kernel_rfl
theorem fnOk84 : fnOk Tryz.prog 84 = true := by kernel_rfl
theorem fnOk85 : fnOk Tryz.prog 85 = true := by kernel_rfl
theorem tk44 : tk Tryz.prog 44 = some none := by kernel_rfl
theorem tk45 : tk Tryz.prog 45 = some none := by kernel_rfl
theorem tst47 : tst Tryz.prog 47 = some [(0, 1), (1, 1), (2, 1)] := by kernel_rfl
theorem tz47 : tz Tryz.prog 47 = some [.pointer none, .bool false, .slice none 0 0] := by kernel_rfl
theorem uNone_ok (W : World) {l_ : List DRun} {br_ : Bool} {D_ : DdiskDisk} {gd_ : Nat} {m0 : Mem} (hm : mle (m0) (wm W)) {g0 : Nat} (h0 : Ow (.ptr TrunRuns) m0 [.pointer (some ⟨g0, 0, none⟩)] (g0, ((gd_, D_), br_, l_))) : CallR Tryz.prog 55 [.pointer (some ⟨g0, 0, none⟩)] W (m0) (fun v m' => v = .bool (decide (False)) ∧ Ow (.ptr TrunRuns) m' [.pointer (some ⟨g0, 0, none⟩)] (g0, ((gd_, D_), br_, l_))) := by
  refine CallR.ofB (n := 12) hm Tryz.func55 rfl rfl rfl ?_
  refine VC.rs ?_
  refine VO.as ?_
  refine VO.k2 0 2 ?_
  refine VC.rs ?_
  refine VO.mv ?_
  refine VO.y rfl (.pnil rfl rfl Tryz.underlying38 rfl) ?_
  refine VO.mv ?_
  refine VO.gy rfl ⟨_, rfl, rfl⟩ (.mv rfl) ?_
  refine VO.gy rfl ⟨_, rfl, rfl⟩ (.nilp rfl) ?_
  refine VO.gy rfl ⟨_, rfl, rfl⟩ (.fa rfl tst47 rfl) ?_
  obtain ⟨q1_E, q1_A2, q1_c2, q1_n0, q1_n2, _, q1_S, q1_0, q1_2⟩ := openP_runRuns (x0 := (gd_, D_)) (x1 := br_) (x2 := l_) h0
  dsimp only at q1_0
  have q1_r2 := q1_2.rm
  refine VO.inv _ (fun _ h => h.parts (i := 1) rfl q1_S [104, 102, 103]) ?_
  refine VO.gy rfl ⟨_, rfl, rfl⟩ (.ld1 104 rfl tk44 rfl (cellsAt_one rfl rfl)) ?_
  refine VO.gy rfl ⟨_, rfl, rfl⟩ (.pnil rfl rfl Tryz.underlying44 rfl) ?_
  refine VO.y rfl (.pF rfl rfl) ?_
  refine VO.as ?_
  refine VO.clsP 105 [104, 102, 103] rfl (fun hg5 => (mkP_runRuns (gd_, D_) br_ l_ hg5 q1_0 q1_2)) (fun mc5 ho5 => ?_)
  refine VO.k2 0 2 ?_
  refine VC.ret ?_
  refine ⟨_, _, res_run (rs := [.tmp 2]) rfl (.tmp rfl .nil), fun W_ hI => out_of (l := [mc5]) hI [105] rfl rfl (mle_refl _) (fun hS_ => ?_)⟩
  dsimp only [packV]
  have hm0_ : (((gd_, D_), br_, l_) : DrunRuns) = ((gd_, D_), br_, l_) := by first | rfl | (simp [*]; done)
  refine ⟨?_, ?_⟩
  rotate_left
  · rw [hm0_]; exact (Ow.up ho5 (hS_.1 _ (.head _)))
  all_goals (first | rfl | (simp [*]; done))
theorem uEnd_ok (W : World) {l_ : List DRun} {br_ : Bool} {D_ : DdiskDisk} {gd_ : Nat} {m0 : Mem} (hm : mle (m0) (wm W)) {g0 : Nat} (h0 : Ow (.ptr TrunRuns) m0 [.pointer (some ⟨g0, 0, none⟩)] (g0, ((gd_, D_), br_, l_))) (e0 : okU l_) : CallR Tryz.prog 21 [.pointer (some ⟨g0, 0, none⟩)] W (m0) (fun v m' => v = .int .i64 (endR l_) ∧ Ow (.ptr TrunRuns) m' [.pointer (some ⟨g0, 0, none⟩)] (g0, ((gd_, D_), br_, l_))) := by
  have hll := okU_len e0
  refine CallR.ofB (n := 26) hm Tryz.func21 rfl rfl rfl ?_
  refine VC.rs ?_
  refine VO.as ?_
  refine VO.k2 0 2 ?_
  refine VC.seq ?_
  refine VC.rs ?_
  refine VO.mv ?_
  refine VO.call 1 rfl fnOk55 rfl rfl (fun W hW => uNone_ok W (hW.at (i := 1) rfl) h0) (fun v1 m1 hv1 => ?_)
  try dsimp only at hv1
  obtain ⟨rfl, w1_0⟩ := hv1
  refine VO.mv ?_
  refine VO.dec (t := 5) rfl (fun hc2 => ?_) (fun hc2 => ?_)
  · -- T
    exact hc2.elim
  · -- F
    refine VO.gy rfl ⟨_, rfl, rfl⟩ (.mv rfl) ?_
    refine VO.gy rfl ⟨_, rfl, rfl⟩ (.nilp rfl) ?_
    refine VO.gy rfl ⟨_, rfl, rfl⟩ (.fa rfl tst47 rfl) ?_
    obtain ⟨q3_E, q3_A2, q3_c2, q3_n0, q3_n2, _, q3_S, q3_0, q3_2⟩ := openP_runRuns (x0 := (gd_, D_)) (x1 := br_) (x2 := l_) w1_0
    dsimp only at q3_0
    have q3_r2 := q3_2.rm
    refine VO.inv _ (fun _ h => h.parts (i := 1) rfl q3_S [106, 104, 105]) ?_
    refine VO.gy rfl ⟨_, rfl, rfl⟩ (.ld1 106 rfl tk45 rfl (cellsAt_one rfl rfl)) ?_
    refine VO.gy rfl ⟨_, rfl, rfl⟩ (.lenS rfl tsl45) ?_
    refine VO.gy rfl ⟨_, rfl, rfl⟩ (.eql rfl rfl) ?_
    refine VO.y rfl (.pF rfl rfl) ?_
    refine VO.clsP 107 [106, 104, 105] rfl (fun hg7 => (mkP_runRuns (gd_, D_) br_ l_ hg7 q3_0 q3_2)) (fun mc7 ho7 => ?_)
    refine VO.k3 0 2 12 ?_
    refine VC.cond rfl (fun hc8 => ?_) (fun hc8 => ?_)
    · -- FT
      refine VC.rs ?_
      refine VO.as ?_
      refine VO.kp [107, 0] [(107, mc7), (0, mout (wm W) (m0))] ?_
      refine VO.k3 0 2 12 ?_
      refine VC.ret ?_
      refine outR ?_
      refine ⟨_, _, res_run (rs := [.tmp 2]) rfl (.tmp rfl .nil), fun W_ hI => out_of (l := [mc7]) hI [107] rfl rfl (mle_refl _) (fun hS_ => ?_)⟩
      dsimp only [packV]
      have hm0_ : (((gd_, D_), br_, l_) : DrunRuns) = ((gd_, D_), br_, l_) := by first | rfl | (simp [*]; done)
      refine ⟨?_, ?_⟩
      rotate_left
      · rw [hm0_]; exact (Ow.up ho7 (hS_.1 _ (.head _)))
      all_goals (first | rfl | (first | exact congrArg (Value.int _) (endR_at ‹l_[_]? = some _› (by omega)).symm | exact congrArg (Value.int _) (endR_nil (by omega)).symm | exact congrArg (Value.int _) (endR_nil (not_not_intro (by assumption))).symm))
    · -- FF
      refine VC.skip ?_
      refine outN ?_
      refine VC.seq ?_
      obtain ⟨q9_E, q9_A2, q9_c2, q9_n0, q9_n2, _, q9_S, q9_0, q9_2⟩ := openP_runRuns (x0 := (gd_, D_)) (x1 := br_) (x2 := l_) ho7
      dsimp only at q9_0
      have q9_r2 := q9_2.rm
      refine VC.inv _ (fun _ h => h.parts (i := 107) rfl q9_S [112, 110, 111]) ?_
      refine VC.regD _ 10 [(0, true), (1, true), (2, true), (3, true), (4, true), (5, true), (6, true), (7, true), (8, true), (9, true)] follows (by kernel_rfl) (fun _ h => h.sub [112, 110, 111, 0]) ?_
      refine VD.y rfl rfl (.inl rfl) (.mv rfl) ?_
      refine VD.y rfl rfl (.inl rfl) (.nilp rfl) ?_
      refine VD.y rfl rfl (.inl rfl) (.fa rfl tst47 rfl) ?_
      refine VD.y rfl rfl (.inl rfl) (.ld1 112 rfl tk45 rfl (cellsAt_one rfl rfl)) ?_
      refine VD.y rfl rfl (.inl rfl) (.mv rfl) ?_
      refine VD.y rfl rfl (.inl rfl) (.nilp rfl) ?_
      refine VD.y rfl rfl (.inl rfl) (.fa rfl tst47 rfl) ?_
      refine VD.y rfl rfl (.inl rfl) (.ld1 112 rfl tk45 rfl (cellsAt_one rfl rfl)) ?_
      refine VD.y rfl rfl (.inl rfl) (.lenS rfl tsl45) ?_
      refine VD.y rfl rfl (.inl rfl) (.sub rfl rfl rfl ⟨bd, bd⟩) ?_
      refine VD.nil rfl ?_ rfl
      obtain ⟨x13, hx13⟩ : ∃ z_, (l_)[(((l_.length : Nat) : Int) - 1).toNat]? = some z_ := ⟨_, List.getElem?_eq_getElem bd⟩
      obtain ⟨gg13, oo13, ec13, ea13, hce13, hre13⟩ := (Ow.rd q9_2 (mle_refl _)).elem hx13
      cases ea13
      obtain ⟨q13_A2, q13_c2, rfl, q13_0, q13_1, q13_2⟩ := open_Run (x0 := x13.1) (x1 := x13.2.1) (x2 := x13.2.2) hre13
      simp only [inK] at q13_0
      simp only [inK] at q13_1
      have q13_r2 := Rd.room q13_2
      refine VO.y rfl (.ixI ((((l_.length : Nat) : Int) - 1).toNat) rfl rfl tsl45 bd bd) ?_
      refine VO.y rfl (.fa rfl tst92 rfl) ?_
      refine VO.y rfl (.ld1 111 rfl tk3 rfl (hce13.at1 (j := 1) rfl)) ?_
      refine VO.as ?_
      refine VO.clsP 114 [112, 110, 111] rfl (fun hg14 => (mkP_runRuns (gd_, D_) br_ l_ hg14 q9_0 q9_2)) (fun mc14 ho14 => ?_)
      refine VO.kp [114, 0] [(114, mc14), (0, mout (wm W) (m0))] ?_
      refine VO.k3 0 2 12 ?_
      refine outN ?_
      refine VC.ret ?_
      refine ⟨_, _, res_run (rs := [.tmp 2]) rfl (.tmp rfl .nil), fun W_ hI => out_of (l := [mc14]) hI [114] rfl rfl (mle_refl _) (fun hS_ => ?_)⟩
      dsimp only [packV]
      have hm0_ : (((gd_, D_), br_, l_) : DrunRuns) = ((gd_, D_), br_, l_) := by first | rfl | (simp [*]; done)
      refine ⟨?_, ?_⟩
      rotate_left
      · rw [hm0_]; exact (Ow.up ho14 (hS_.1 _ (.head _)))
      all_goals (first | rfl | (first | exact congrArg (Value.int _) (endR_at ‹l_[_]? = some _› (by omega)).symm | exact congrArg (Value.int _) (endR_nil (by omega)).symm | exact congrArg (Value.int _) (endR_nil (not_not_intro (by assumption))).symm))
theorem uCopied_ok (W : World) {v0 : List Value} {d0 : DRun} (h0 : Rd TRun (wm W) v0 d0) (e0 : d0.2.2.length ≤ 3518437208800) : CallR Tryz.prog 85 [.agg v0.toArray] W (mnil) (fun v m' => ∃ (s0 : List Value), v = .agg s0.toArray ∧ Ow TRun m' s0 (d0)) := by
  obtain ⟨p0_A2, p0_c2, rfl, p0_0, p0_1, p0_2⟩ := open_Run (x0 := d0.1) (x1 := d0.2.1) (x2 := d0.2.2) h0
  simp only [inK] at p0_0
  simp only [inK] at p0_1
  have p0_r2 := Rd.room p0_2
  refine CallR.ofA (n := 8) Tryz.func85 rfl rfl rfl ?_
  refine VC.rs ?_
  refine VO.box (cs := [Value.int .i64 (d0.1), Value.int .i64 (d0.2.1), Value.slice p0_A2 (d0.2.2.length) (p0_c2)]) 102 rfl rfl rfl (fun g1 => ?_)
  refine VO.alloc 104 rfl tz92 (fun g3 => ?_)
  refine VO.k3 0 1 2 ?_
  refine VC.rs ?_
  refine VO.y rfl (.fa rfl tst92 rfl) ?_
  refine VO.y rfl (.ld1 102 rfl tk34 rfl (cellsAt_one rfl rfl)) ?_
  refine VO.callN 105 rfl fnOk127 rfl (fun W hW => clone_ok W (Rd.mono p0_2 (hW.at (i := 0) rfl)) bd) (fun v5 m5 hv5 => ?_)
  obtain ⟨s5_0, rfl, f5_0⟩ := hv5
  obtain ⟨A5_0, c5_0, eq5_0, l5_0, k5_0⟩ := f5_0.slice
  subst eq5_0
  simp only [maxLen] at k5_0
  refine VO.y rfl (.fa rfl tst92 rfl) ?_
  refine VO.store (k := 1) (c' := [Value.int .i64 (d0.1), Value.int .i64 (d0.2.1), Value.slice A5_0 (d0.2.2.length) (c5_0)]) 102 rfl rfl (.inr ⟨tk34, rfl⟩) rfl rfl rfl rfl rfl ?_
  refine VO.k3 0 1 2 ?_
  refine VC.rs ?_
  refine VO.y rfl (.ldA 102 rfl tk92 rfl (cellsAt_one rfl rfl)) ?_
  refine VO.store (k := 3) (c' := [Value.int .i64 (d0.1), Value.int .i64 (d0.2.1), Value.slice A5_0 (d0.2.2.length) (c5_0)]) 104 rfl rfl (.inl tk92) rfl rfl rfl rfl rfl ?_
  refine VO.kp [105, 104, 102, 0] [(105, m5), (104, mone g3 (.cells [Value.int .i64 (d0.1), Value.int .i64 (d0.2.1), Value.slice A5_0 (d0.2.2.length) (c5_0)].toArray 92 (0, 0))), (102, mone g1 (.cells [Value.int .i64 (d0.1), Value.int .i64 (d0.2.1), Value.slice A5_0 (d0.2.2.length) (c5_0)].toArray 92 (0, 0))), (0, wm W)] ?_
  refine VO.k3 0 1 2 ?_
  refine VC.ret ?_
  refine ⟨_, _, res_run (rs := [.cell 2 92]) rfl (.agg 104 rfl tk92 rfl ⟨_, _, _, mone_self _ _, Nat.le_of_ble_eq_true rfl, rfl⟩ .nil), fun W_ hI => out_of (l := [m5]) hI [105] rfl rfl (mle_refl _) (fun hS_ => ?_)⟩
  dsimp only [packV]
  have he0 : (d0 : Ty.Den TRun) = d0 := by first | rfl | (simp [*]; done)
  refine ⟨[Value.int .i64 (d0.1), Value.int .i64 (d0.2.1), Value.slice A5_0 (d0.2.2.length) (c5_0)], ?_, ?_⟩
  rotate_left
  · rw [he0]; exact (show Ow TRun _ _ d0 from (mkO_Run d0.1 d0.2.1 d0.2.2 hS_ bdk bdk (OwnL.ow (Ow.ownl f5_0 rfl mnil) rfl)))
  all_goals (first | rfl | (simp [*]; done))
theorem fin0_uFlush_ok {P : Prop} (h : P := by first | (rw [flush_off (.inl (by assumption))] <;> first | rfl | done) | (rw [flush_off (.inr (by assumption))] <;> first | rfl | done) | (rw [flush_enc (by rintro (q_ | q_) <;> first | exact absurd (q_.symm.trans ‹br_ = false›) (by decide) | exact q_ (by assumption) | exact absurd q_ (by assumption) | simp_all) (by assumption)] <;> first | rfl | done) | (rw [flush_order (by rintro (q_ | q_) <;> first | exact absurd (q_.symm.trans ‹br_ = false›) (by decide) | exact q_ (by assumption) | exact absurd q_ (by assumption) | simp_all) (by assumption) (by assumption)] <;> first | rfl | done) | (rw [flush_write (by rintro (q_ | q_) <;> first | exact absurd (q_.symm.trans ‹br_ = false›) (by decide) | exact q_ (by assumption) | exact absurd q_ (by assumption) | simp_all) (by assumption) (by assumption) (by assumption)] <;> first | rfl | done) | (rw [flush_sync (by rintro (q_ | q_) <;> first | exact absurd (q_.symm.trans ‹br_ = false›) (by decide) | exact q_ (by assumption) | exact absurd q_ (by assumption) | simp_all) (by assumption) (by assumption) (by assumption) (by assumption)] <;> first | rfl | done) | (rw [flush_good (by rintro (q_ | q_) <;> first | exact absurd (q_.symm.trans ‹br_ = false›) (by decide) | exact q_ (by assumption) | exact absurd q_ (by assumption) | simp_all) (by assumption) (by assumption) (by assumption) (by assumption)] <;> first | rfl | done)) : P := h
theorem fin1_uFlush_ok {P : Prop} (h : P := by first | omega | (simp only [List.length_append, List.length_nil, List.length_cons, List.length_take, List.length_drop] at *; omega) | (have h_ := runCheck_ok (enc_zero ‹¬ ¬ (runEncode d1).2 = 0›).1; omega) | (have h_ := enc_flen ‹¬ ¬ (runEncode d1).2 = 0›; omega) | (have h_ := write_rng D_ 2 (fAppend [] (runEncode d1).1).1; omega)) : P := h
set_option maxHeartbeats 4000000 in
theorem uFlush_ok (W : World) {l_ : List DRun} {br_ : Bool} {D_ : DdiskDisk} {gd_ : Nat} {m0 : Mem} (hm : mle (m0) (wm W)) {g0 : Nat} (h0 : Ow (.ptr TrunRuns) m0 [.pointer (some ⟨g0, 0, none⟩)] (g0, ((gd_, D_), br_, l_))) {v1 : List Value} {d1 : DRun} (h1 : Rd TRun (mout (wm W) (m0)) v1 d1) (e0 : okD D_) (e1 : wD D_ + 200000 ≤ 1000000000000) (e2 : okU l_) : CallR Tryz.prog 42 [.pointer (some ⟨g0, 0, none⟩), .agg v1.toArray] W (m0) (fun v m' => v = .int .i64 ((uFlush D_ br_ l_ d1).2) ∧ Ow (.ptr TrunRuns) m' [.pointer (some ⟨g0, 0, none⟩)] (g0, ((gd_, (uFlush D_ br_ l_ d1).1.1), (uFlush D_ br_ l_ d1).1.2))) := by
  have hll := okU_len e2
  obtain ⟨p1_A2, p1_c2, rfl, p1_0, p1_1, p1_2⟩ := open_Run (x0 := d1.1) (x1 := d1.2.1) (x2 := d1.2.2) h1
  simp only [inK] at p1_0
  simp only [inK] at p1_1
  have p1_r2 := Rd.room p1_2
  refine CallR.ofB (n := 76) hm Tryz.func42 rfl rfl rfl ?_
  refine VC.rs ?_
  refine VO.box (cs := [Value.int .i64 (d1.1), Value.int .i64 (d1.2.1), Value.slice p1_A2 (d1.2.2.length) (p1_c2)]) 102 rfl rfl rfl (fun g1 => ?_)
  refine VO.as ?_
  refine VO.k4 0 1 3 4 ?_
  refine VC.seq ?_
  refine VC.rs ?_
  refine VO.mv ?_
  refine VO.call 1 rfl fnOk55 rfl rfl (fun W hW => uNone_ok W (hW.at (i := 1) rfl) h0) (fun v3 m3 hv3 => ?_)
  try dsimp only at hv3
  obtain ⟨rfl, w3_0⟩ := hv3
  refine VO.k5 0 1 3 4 9 ?_
  refine VC.cond rfl (fun hc4 => ?_) (fun hc4 => ?_)
  · -- T
    exact hc4.elim
  · -- F
    refine VC.skip ?_
    refine outN ?_
    refine VC.seq ?_
    refine VC.rs ?_
    refine VO.mv ?_
    refine VO.y rfl (.nilp rfl) ?_
    refine VO.y rfl (.fa rfl tst47 rfl) ?_
    obtain ⟨q5_E, q5_A2, q5_c2, q5_n0, q5_n2, _, q5_S, q5_0, q5_2⟩ := openP_runRuns (x0 := (gd_, D_)) (x1 := br_) (x2 := l_) w3_0
    dsimp only at q5_0
    have q5_r2 := q5_2.rm
    refine VO.inv _ (fun _ h => h.parts (i := 1) rfl q5_S [108, 106, 107]) ?_
    refine VO.y rfl (.ld1 108 rfl tk4 rfl (cellsAt_one rfl rfl)) ?_
    refine VO.mv ?_
    refine VO.decB (t := 14) rfl (fun hc9 => ?_) (fun hc9 => ?_)
    · -- FT
      refine VO.gN ?_
      refine VO.gN ?_
      refine VO.gN ?_
      refine VO.gN ?_
      refine VO.gN ?_
      refine VO.gN ?_
      refine VO.y rfl (.pT rfl rfl) ?_
      refine VO.clsP 110 [108, 106, 107] rfl (fun hg10 => (mkP_runRuns (gd_, D_) br_ l_ hg10 q5_0 q5_2)) (fun mc10 ho10 => ?_)
      refine VO.kp [110, 102, 0] [(110, mc10), (102, mone g1 (.cells [Value.int .i64 (d1.1), Value.int .i64 (d1.2.1), Value.slice p1_A2 (d1.2.2.length) (p1_c2)].toArray 92 (0, 0))), (0, mout (wm W) (m0))] ?_
      refine VO.k6 0 1 3 4 9 21 ?_
      refine VC.condT rfl ?_
      refine VC.rs ?_
      refine VO.mv ?_
      refine VO.y rfl (.nilp rfl) ?_
      refine VO.y rfl (.fa rfl tst47 rfl) ?_
      obtain ⟨q11_E, q11_A2, q11_c2, q11_n0, q11_n2, _, q11_S, q11_0, q11_2⟩ := openP_runRuns (x0 := (gd_, D_)) (x1 := br_) (x2 := l_) ho10
      dsimp only at q11_0
      have q11_r2 := q11_2.rm
      refine VO.inv _ (fun _ h => h.parts (i := 110) rfl q11_S [114, 112, 113]) ?_
      refine VO.store (k := 1) (c' := [Value.pointer (some ⟨gd_, 0, none⟩), Value.bool true, Value.slice q11_A2 (l_.length) (q11_c2)]) 114 rfl rfl (.inr ⟨tk4, rfl⟩) rfl rfl rfl rfl rfl ?_
      refine VO.clsP 115 [114, 112, 113] rfl (fun hg15 => (mkP_runRuns (gd_, D_) true l_ hg15 q11_0 q11_2)) (fun mc15 ho15 => ?_)
      refine VO.k6 0 1 3 4 9 21 ?_
      refine VC.rs ?_
      refine VO.as ?_
      refine VO.k6 0 1 3 4 9 21 ?_
      refine VC.ret ?_
      refine outR ?_
      refine ⟨_, _, res_run (rs := [.tmp 4]) rfl (.tmp rfl .nil), fun W_ hI => out_of (l := [mc15]) hI [115] rfl rfl (mle_refl _) (fun hS_ => ?_)⟩
      dsimp only [packV]
      have hm0_ : (((gd_, (uFlush D_ br_ l_ d1).1.1), (uFlush D_ br_ l_ d1).1.2) : DrunRuns) = ((gd_, D_), true, l_) := by first | rfl | (exact fin0_uFlush_ok)
      refine ⟨?_, ?_⟩
      rotate_left
      · rw [hm0_]; exact (Ow.up ho15 (hS_.1 _ (.head _)))
      all_goals (first | rfl | (exact fin0_uFlush_ok))
    · -- FF
      refine VO.gy rfl ⟨_, rfl, rfl⟩ (.mv rfl) ?_
      refine VO.gy rfl ⟨_, rfl, rfl⟩ (.nilp rfl) ?_
      refine VO.gy rfl ⟨_, rfl, rfl⟩ (.fa rfl tst47 rfl) ?_
      refine VO.gy rfl ⟨_, rfl, rfl⟩ (.ld1 108 rfl tk44 rfl (cellsAt_one rfl rfl)) ?_
      refine VO.gcall 106 rfl ⟨_, rfl, rfl⟩ fnOk81 rfl rfl (fun W hW => dOn_ok W (hW.at (i := 106) rfl) q5_0) (fun v16 m16 hv16 => ?_)
      obtain ⟨rfl, w16_0⟩ := hv16
      refine VO.gy rfl ⟨_, rfl, rfl⟩ (.notD rfl) ?_
      refine VO.y rfl (.pF rfl rfl) ?_
      refine VO.clsP 117 [108, 106, 107] rfl (fun hg17 => (mkP_runRuns (gd_, D_) br_ l_ hg17 w16_0 q5_2)) (fun mc17 ho17 => ?_)
      refine VO.kp [117, 102, 0] [(117, mc17), (102, mone g1 (.cells [Value.int .i64 (d1.1), Value.int .i64 (d1.2.1), Value.slice p1_A2 (d1.2.2.length) (p1_c2)].toArray 92 (0, 0))), (0, mout (wm W) (m0))] ?_
      refine VO.k6 0 1 3 4 9 21 ?_
      refine VC.cond rfl (fun hc18 => ?_) (fun hc18 => ?_)
      · -- FFT
        refine VC.rs ?_
        refine VO.mv ?_
        refine VO.y rfl (.nilp rfl) ?_
        refine VO.y rfl (.fa rfl tst47 rfl) ?_
        obtain ⟨q19_E, q19_A2, q19_c2, q19_n0, q19_n2, _, q19_S, q19_0, q19_2⟩ := openP_runRuns (x0 := (gd_, D_)) (x1 := br_) (x2 := l_) ho17
        dsimp only at q19_0
        have q19_r2 := q19_2.rm
        refine VO.inv _ (fun _ h => h.parts (i := 117) rfl q19_S [122, 120, 121]) ?_
        refine VO.store (k := 1) (c' := [Value.pointer (some ⟨gd_, 0, none⟩), Value.bool true, Value.slice q19_A2 (l_.length) (q19_c2)]) 122 rfl rfl (.inr ⟨tk4, rfl⟩) rfl rfl rfl rfl rfl ?_
        refine VO.clsP 123 [122, 120, 121] rfl (fun hg23 => (mkP_runRuns (gd_, D_) true l_ hg23 q19_0 q19_2)) (fun mc23 ho23 => ?_)
        refine VO.k6 0 1 3 4 9 21 ?_
        refine VC.rs ?_
        refine VO.as ?_
        refine VO.k6 0 1 3 4 9 21 ?_
        refine VC.ret ?_
        refine outR ?_
        refine ⟨_, _, res_run (rs := [.tmp 4]) rfl (.tmp rfl .nil), fun W_ hI => out_of (l := [mc23]) hI [123] rfl rfl (mle_refl _) (fun hS_ => ?_)⟩
        dsimp only [packV]
        have hm0_ : (((gd_, (uFlush D_ br_ l_ d1).1.1), (uFlush D_ br_ l_ d1).1.2) : DrunRuns) = ((gd_, D_), true, l_) := by first | rfl | (exact fin0_uFlush_ok)
        refine ⟨?_, ?_⟩
        rotate_left
        · rw [hm0_]; exact (Ow.up ho23 (hS_.1 _ (.head _)))
        all_goals (first | rfl | (exact fin0_uFlush_ok))
      · -- FFF
        refine VC.skip ?_
        refine outN ?_
        refine VC.rs ?_
        refine VO.y rfl (.ldA 102 rfl tk92 rfl (cellsAt_one rfl rfl)) ?_
        refine VO.callN 124 rfl fnOk82 rfl (fun W hW => runEncode_ok W (Rd.mono h1 (hW.at (i := 0) rfl))) (fun v24 m24 hv24 => ?_)
        obtain ⟨s24_0, rfl, f24_0⟩ := hv24
        have hfa25 := runEncode_len d1
        obtain ⟨A24_0, c24_0, eq24_0, l24_0, k24_0⟩ := f24_0.slice
        subst eq24_0
        simp only [maxLen] at k24_0
        refine VO.mv ?_
        refine VO.y rfl (.ext rfl rfl) ?_
        refine VO.y rfl (.ext rfl rfl) ?_
        refine VO.as ?_
        refine VO.as ?_
        refine VO.k8 0 1 3 4 5 6 9 21 ?_
        refine VC.seq ?_
        refine VC.rs ?_
        refine VO.mv ?_
        refine VO.y rfl (.neq rfl rfl) ?_
        refine VO.k9 0 1 3 4 5 6 9 21 31 ?_
        refine VC.cond rfl (fun hc26 => ?_) (fun hc26 => ?_)
        · -- FFFT
          refine VC.rs ?_
          refine VO.mv ?_
          refine VO.as ?_
          refine VO.kp [124, 117, 102, 0] [(124, m24), (117, mc17), (102, mone g1 (.cells [Value.int .i64 (d1.1), Value.int .i64 (d1.2.1), Value.slice p1_A2 (d1.2.2.length) (p1_c2)].toArray 92 (0, 0))), (0, mout (wm W) (m0))] ?_
          refine VO.k9 0 1 3 4 5 6 9 21 31 ?_
          refine VC.ret ?_
          refine outR ?_
          refine ⟨_, _, res_run (rs := [.tmp 4]) rfl (.tmp rfl .nil), fun W_ hI => out_of (l := [mc17]) hI [117] rfl rfl (mle_refl _) (fun hS_ => ?_)⟩
          dsimp only [packV]
          have hm0_ : (((gd_, (uFlush D_ br_ l_ d1).1.1), (uFlush D_ br_ l_ d1).1.2) : DrunRuns) = ((gd_, D_), br_, l_) := by first | rfl | (exact fin0_uFlush_ok)
          refine ⟨?_, ?_⟩
          rotate_left
          · rw [hm0_]; exact (Ow.up ho17 (hS_.1 _ (.head _)))
          all_goals (first | rfl | (exact fin0_uFlush_ok))
        · -- FFFF
          refine VC.skip ?_
          refine outN ?_
          refine VC.seq ?_
          refine VC.seq ?_
          refine VC.regD _ 5 [(0, true), (1, true), (2, true), (3, false), (4, true)] follows (by kernel_rfl) (fun _ h => h.sub [124, 102, 0]) ?_
          refine VD.y rfl rfl (.inl rfl) (.fa rfl tst92 rfl) ?_
          refine VD.y rfl rfl (.inl rfl) (.ld1 102 rfl tk3 rfl (cellsAt_one rfl rfl)) ?_
          refine VD.y rfl rfl (.inl rfl) (.mv rfl) ?_
          refine VD.call 117 rfl rfl (.inl rfl) fnOk21 rfl rfl (fun _ _ h => h.sub [124, 102, 0]) (fun W hW => uEnd_ok W (hW.at (i := 117) rfl) ho17 (by assumption)) (fun v27 m27 hv27 => ?_)
          try dsimp only at hv27
          obtain ⟨rfl, w27_0⟩ := hv27
          refine VD.y rfl rfl (.inl rfl) (.add rfl rfl rfl ⟨by exact fin1_uFlush_ok, by exact fin1_uFlush_ok⟩) ?_
          refine VD.nil rfl ?_ rfl
          refine VO.y rfl (.neq rfl rfl) ?_
          refine VO.kp [117, 124, 102, 0] [(117, m27), (124, m24), (102, mone g1 (.cells [Value.int .i64 (d1.1), Value.int .i64 (d1.2.1), Value.slice p1_A2 (d1.2.2.length) (p1_c2)].toArray 92 (0, 0))), (0, mout (wm W) (m0))] ?_
          refine VO.k10 0 1 3 4 5 6 9 21 31 38 ?_
          refine outN ?_
          refine VC.cond rfl (fun hc28 => ?_) (fun hc28 => ?_)
          · -- FFFFT
            refine VC.rs ?_
            refine VO.as ?_
            refine VO.k10 0 1 3 4 5 6 9 21 31 38 ?_
            refine VC.ret ?_
            refine outR ?_
            refine ⟨_, _, res_run (rs := [.tmp 4]) rfl (.tmp rfl .nil), fun W_ hI => out_of (l := [m27]) hI [117] rfl rfl (mle_refl _) (fun hS_ => ?_)⟩
            dsimp only [packV]
            have hm0_ : (((gd_, (uFlush D_ br_ l_ d1).1.1), (uFlush D_ br_ l_ d1).1.2) : DrunRuns) = ((gd_, D_), br_, l_) := by first | rfl | (exact fin0_uFlush_ok)
            refine ⟨?_, ?_⟩
            rotate_left
            · rw [hm0_]; exact (Ow.up w27_0 (hS_.1 _ (.head _)))
            all_goals (first | rfl | (exact fin0_uFlush_ok))
          · -- FFFFF
            refine VC.skip ?_
            refine outN ?_
            refine VC.rs ?_
            refine VO.mv ?_
            refine VO.callN 129 rfl fnOk83 rfl (fun W hW => fAppend_ok W (Rd.nil _ _ none 0 (Nat.zero_le _)) (OwnL.rd (Ow.ownl f24_0 rfl mnil) (hW.at (i := 124) rfl) (mle_nil _)) (by exact fin1_uFlush_ok)) (fun v29 m29 hv29 => ?_)
            obtain ⟨s29_0, rfl, f29_0⟩ := hv29
            have hfa30 := fAppend_len [] ((runEncode d1).1)
            have hfa31 := fAppend_range [] ((runEncode d1).1)
            obtain ⟨A29_0, c29_0, eq29_0, l29_0, k29_0⟩ := f29_0.slice
            subst eq29_0
            simp only [maxLen] at k29_0
            refine VO.mv ?_
            refine VO.y rfl (.ext rfl rfl) ?_
            refine VO.y rfl (.ext rfl rfl) ?_
            refine VO.as ?_
            refine VO.as ?_
            refine VO.k11 0 1 3 4 5 6 7 9 21 31 38 ?_
            refine VC.seq ?_
            refine VC.rs ?_
            refine VO.mv ?_
            refine VO.y rfl (.eql rfl rfl) ?_
            refine VO.k12 0 1 3 4 5 6 7 9 21 31 38 45 ?_
            refine VC.cond rfl (fun hc32 => ?_) (fun hc32 => ?_)
            · -- FFFFFT
              refine VC.reg ?_
              refine VO.mv ?_
              refine VO.y rfl (.nilp rfl) ?_
              refine VO.y rfl (.fa rfl tst47 rfl) ?_
              obtain ⟨q33_E, q33_A2, q33_c2, q33_n0, q33_n2, _, q33_S, q33_0, q33_2⟩ := openP_runRuns (x0 := (gd_, D_)) (x1 := br_) (x2 := l_) w27_0
              dsimp only at q33_0
              have q33_r2 := q33_2.rm
              refine VO.inv _ (fun _ h => h.parts (i := 117) rfl q33_S [136, 134, 135]) ?_
              refine VO.y rfl (.ld1 136 rfl tk44 rfl (cellsAt_one rfl rfl)) ?_
              refine VO.mv ?_
              refine VO.call 134 rfl fnOk84 rfl rfl (fun W hW => dWrite_ok W (hW.at (i := 134) rfl) q33_0 2 (by simp only [inK]; (exact fin1_uFlush_ok)) (OwnL.rd (Ow.ownl f29_0 rfl mnil) (hW.out (i := 134) (j := 129) rfl rfl) (mle_nil _)) (by assumption) (by exact fin1_uFlush_ok)) (fun v37 m37 hv37 => ?_)
              obtain ⟨rfl, w37_0⟩ := hv37
              have hfa38 := (write_ok (f := 2) (b := ((fAppend [] ((runEncode d1).1)).1)) (show okD D_ by assumption))
              have hfa39 := (write_w (f := 2) (b := ((fAppend [] ((runEncode d1).1)).1)) (show okD D_ by assumption))
              refine VO.as ?_
              refine VO.clsP 140 [136, 134, 135] rfl (fun hg40 => (mkP_runRuns (gd_, (dWrite D_ 2 ((fAppend [] ((runEncode d1).1)).1)).1) br_ l_ hg40 w37_0 q33_2)) (fun mc40 ho40 => ?_)
              refine VO.kp [140, 129, 124, 102, 0] [(140, mc40), (129, m29), (124, m24), (102, mone g1 (.cells [Value.int .i64 (d1.1), Value.int .i64 (d1.2.1), Value.slice p1_A2 (d1.2.2.length) (p1_c2)].toArray 92 (0, 0))), (0, mout (wm W) (m0))] ?_
              refine VO.k12 0 1 3 4 5 6 7 9 21 31 38 45 ?_
              refine outN ?_
              refine VC.seq ?_
              refine VC.rs ?_
              refine VO.mv ?_
              refine VO.y rfl (.eql rfl rfl) ?_
              refine VO.k13 0 1 3 4 5 6 7 9 21 31 38 45 53 ?_
              refine VC.cond rfl (fun hc41 => ?_) (fun hc41 => ?_)
              · -- FFFFFTT
                refine VC.reg ?_
                refine VO.mv ?_
                refine VO.y rfl (.nilp rfl) ?_
                refine VO.y rfl (.fa rfl tst47 rfl) ?_
                obtain ⟨q42_E, q42_A2, q42_c2, q42_n0, q42_n2, _, q42_S, q42_0, q42_2⟩ := openP_runRuns (x0 := (gd_, (dWrite D_ 2 ((fAppend [] ((runEncode d1).1)).1)).1)) (x1 := br_) (x2 := l_) ho40
                dsimp only at q42_0
                have q42_r2 := q42_2.rm
                refine VO.inv _ (fun _ h => h.parts (i := 140) rfl q42_S [145, 143, 144]) ?_
                refine VO.y rfl (.ld1 145 rfl tk44 rfl (cellsAt_one rfl rfl)) ?_
                refine VO.call 143 rfl fnOk54 rfl rfl (fun W hW => dSync_ok W (hW.at (i := 143) rfl) q42_0 (by assumption) (by exact fin1_uFlush_ok)) (fun v46 m46 hv46 => ?_)
                obtain ⟨rfl, w46_0⟩ := hv46
                have hfa47 := (sync_ok (show okD ((dWrite D_ 2 ((fAppend [] ((runEncode d1).1)).1)).1) by assumption))
                have hfa48 := (sync_w (show okD ((dWrite D_ 2 ((fAppend [] ((runEncode d1).1)).1)).1) by assumption))
                refine VO.as ?_
                refine VO.clsP 149 [145, 143, 144] rfl (fun hg49 => (mkP_runRuns (gd_, (dSync ((dWrite D_ 2 ((fAppend [] ((runEncode d1).1)).1)).1)).1) br_ l_ hg49 w46_0 q42_2)) (fun mc49 ho49 => ?_)
                refine VO.k13 0 1 3 4 5 6 7 9 21 31 38 45 53 ?_
                refine outN ?_
                refine VC.seq ?_
                refine VC.rs ?_
                refine VO.mv ?_
                refine VO.y rfl (.neq rfl rfl) ?_
                refine VO.kp [149, 129, 124, 102, 0] [(149, mc49), (129, m29), (124, m24), (102, mone g1 (.cells [Value.int .i64 (d1.1), Value.int .i64 (d1.2.1), Value.slice p1_A2 (d1.2.2.length) (p1_c2)].toArray 92 (0, 0))), (0, mout (wm W) (m0))] ?_
                refine VO.k14 0 1 3 4 5 6 7 9 21 31 38 45 53 60 ?_
                refine VC.cond rfl (fun hc50 => ?_) (fun hc50 => ?_)
                · -- FFFFFTTT
                  refine VC.rs ?_
                  refine VO.mv ?_
                  refine VO.y rfl (.nilp rfl) ?_
                  refine VO.y rfl (.fa rfl tst47 rfl) ?_
                  obtain ⟨q51_E, q51_A2, q51_c2, q51_n0, q51_n2, _, q51_S, q51_0, q51_2⟩ := openP_runRuns (x0 := (gd_, (dSync ((dWrite D_ 2 ((fAppend [] ((runEncode d1).1)).1)).1)).1)) (x1 := br_) (x2 := l_) ho49
                  dsimp only at q51_0
                  have q51_r2 := q51_2.rm
                  refine VO.inv _ (fun _ h => h.parts (i := 149) rfl q51_S [154, 152, 153]) ?_
                  refine VO.store (k := 1) (c' := [Value.pointer (some ⟨gd_, 0, none⟩), Value.bool true, Value.slice q51_A2 (l_.length) (q51_c2)]) 154 rfl rfl (.inr ⟨tk4, rfl⟩) rfl rfl rfl rfl rfl ?_
                  refine VO.clsP 155 [154, 152, 153] rfl (fun hg55 => (mkP_runRuns (gd_, (dSync ((dWrite D_ 2 ((fAppend [] ((runEncode d1).1)).1)).1)).1) true l_ hg55 q51_0 q51_2)) (fun mc55 ho55 => ?_)
                  refine VO.k14 0 1 3 4 5 6 7 9 21 31 38 45 53 60 ?_
                  refine VC.rs ?_
                  refine VO.mv ?_
                  refine VO.as ?_
                  refine VO.k14 0 1 3 4 5 6 7 9 21 31 38 45 53 60 ?_
                  refine VC.ret ?_
                  refine outR ?_
                  refine ⟨_, _, res_run (rs := [.tmp 4]) rfl (.tmp rfl .nil), fun W_ hI => out_of (l := [mc55]) hI [155] rfl rfl (mle_refl _) (fun hS_ => ?_)⟩
                  dsimp only [packV]
                  have hm0_ : (((gd_, (uFlush D_ br_ l_ d1).1.1), (uFlush D_ br_ l_ d1).1.2) : DrunRuns) = ((gd_, (dSync ((dWrite D_ 2 ((fAppend [] ((runEncode d1).1)).1)).1)).1), true, l_) := by first | rfl | (exact fin0_uFlush_ok)
                  refine ⟨?_, ?_⟩
                  rotate_left
                  · rw [hm0_]; exact (Ow.up ho55 (hS_.1 _ (.head _)))
                  all_goals (first | rfl | (exact fin0_uFlush_ok))
                · -- FFFFFTTF
                  refine VC.skip ?_
                  refine outN ?_
                  refine VC.seq ?_
                  obtain ⟨q56_E, q56_A2, q56_c2, q56_n0, q56_n2, _, q56_S, q56_0, q56_2⟩ := openP_runRuns (x0 := (gd_, (dSync ((dWrite D_ 2 ((fAppend [] ((runEncode d1).1)).1)).1)).1)) (x1 := br_) (x2 := l_) ho49
                  dsimp only at q56_0
                  have q56_r2 := q56_2.rm
                  refine VC.inv _ (fun _ h => h.parts (i := 149) rfl q56_S [159, 157, 158]) ?_
                  refine VC.regD _ 9 [(0, true), (1, true), (2, true), (3, true), (4, true), (5, true), (6, false), (7, false), (8, false)] follows (by kernel_rfl) (fun _ h => h.sub [159, 157, 129, 124, 102, 0]) ?_
                  refine VD.y rfl rfl (.inl rfl) (.mv rfl) ?_
                  refine VD.y rfl rfl (.inl rfl) (.mv rfl) ?_
                  refine VD.y rfl rfl (.inl rfl) (.nilp rfl) ?_
                  refine VD.y rfl rfl (.inl rfl) (.fa rfl tst47 rfl) ?_
                  refine VD.y rfl rfl (.inl rfl) (.ld1 159 rfl tk45 rfl (cellsAt_one rfl rfl)) ?_
                  refine VD.y rfl rfl (.inl rfl) (.ldA 102 rfl tk92 rfl (cellsAt_one rfl rfl)) ?_
                  refine VD.callN 160 rfl rfl (.inl rfl) fnOk85 rfl (fun _ h => h.sub [159, 157, 129, 124, 102, 0]) (fun W hW => uCopied_ok W (Rd.mono h1 (hW.at (i := 0) rfl)) (by exact fin1_uFlush_ok)) (fun v60 m60 hv60 => ?_)
                  obtain ⟨s60_0, rfl, f60_0⟩ := hv60
                  obtain ⟨q60_0_A2, q60_0_c2, q60_0_n2, rfl, q60_0_S, q60_0_0, q60_0_1, q60_0_2⟩ := openO_Run (x0 := d1.1) (x1 := d1.2.1) (x2 := d1.2.2) f60_0
                  simp only [inK] at q60_0_0
                  simp only [inK] at q60_0_1
                  have q60_0_r2 := q60_0_2.rm
                  refine VD.inv _ (fun _ h => h.parts (i := 160) rfl q60_0_S [161]) ?_
                  refine VD.bsl (cs := [Value.int .i64 (d1.1), Value.int .i64 (d1.2.1), Value.slice q60_0_A2 (d1.2.2.length) (q60_0_c2)]) 163 rfl rfl rfl tsl45 tz92 rfl rfl (fun _ h => h.sub [159, 157, 129, 124, 102, 0]) (fun g62 => ?_)
                  refine VD.appO (e := TRun) 158 161 163 rfl rfl rfl rfl tsl45 tz92 rfl rfl rfl rfl q56_2 (show Ow TRun _ _ d1 from (mkO_Run d1.1 d1.2.1 d1.2.2 (Seps.one (mle_refl _)) (by simp only [inK]; (exact fin1_uFlush_ok)) (by simp only [inK]; (exact fin1_uFlush_ok)) (OwnL.ow (Ow.ownl q60_0_2 rfl mnil) rfl))) Tryz.underlying45 (cellsAt_one rfl rfl) (by simp only [maxLen]; (exact fin1_uFlush_ok)) (by exact fin1_uFlush_ok) (by decide) (fun _ _ h => h.sub [159, 157, 129, 124, 102, 0]) (fun v64 m64 ho64 => ?_)
                  obtain ⟨A64, c64, rfl, l64, k64⟩ := ho64.slice
                  simp only [maxLen] at k64
                  refine VD.nil rfl ?_ rfl
                  refine VO.y rfl (.nilp rfl) ?_
                  refine VO.y rfl (.fa rfl tst47 rfl) ?_
                  refine VO.store (k := 1) (c' := [Value.pointer (some ⟨gd_, 0, none⟩), Value.bool br_, Value.slice A64 ((l_ ++ [d1]).length) (c64)]) 159 rfl rfl (.inr ⟨tk45, rfl⟩) rfl rfl rfl rfl rfl ?_
                  refine VO.clsP 165 [159, 157, 158] rfl (fun hg65 => (mkP_runRuns (gd_, (dSync ((dWrite D_ 2 ((fAppend [] ((runEncode d1).1)).1)).1)).1) br_ (l_ ++ [d1]) hg65 q56_0 ho64)) (fun mc65 ho65 => ?_)
                  refine VO.k14 0 1 3 4 5 6 7 9 21 31 38 45 53 60 ?_
                  refine outN ?_
                  refine VC.rs ?_
                  refine VO.as ?_
                  refine VO.k14 0 1 3 4 5 6 7 9 21 31 38 45 53 60 ?_
                  refine VC.ret ?_
                  refine ⟨_, _, res_run (rs := [.tmp 4]) rfl (.tmp rfl .nil), fun W_ hI => out_of (l := [mc65]) hI [165] rfl rfl (mle_refl _) (fun hS_ => ?_)⟩
                  dsimp only [packV]
                  have hm0_ : (((gd_, (uFlush D_ br_ l_ d1).1.1), (uFlush D_ br_ l_ d1).1.2) : DrunRuns) = ((gd_, (dSync ((dWrite D_ 2 ((fAppend [] ((runEncode d1).1)).1)).1)).1), br_, l_ ++ [d1]) := by first | rfl | (exact fin0_uFlush_ok)
                  refine ⟨?_, ?_⟩
                  rotate_left
                  · rw [hm0_]; exact (Ow.up ho65 (hS_.1 _ (.head _)))
                  all_goals (first | rfl | (exact fin0_uFlush_ok))
              · -- FFFFFTF
                refine VC.skip ?_
                refine outN ?_
                refine VC.seq ?_
                refine VC.rs ?_
                refine VO.mv ?_
                refine VO.y rfl (.neq rfl rfl) ?_
                refine VO.k14 0 1 3 4 5 6 7 9 21 31 38 45 53 60 ?_
                refine VC.condKT rfl (decide_eq_true hc41) ?_
                refine VC.rs ?_
                refine VO.mv ?_
                refine VO.y rfl (.nilp rfl) ?_
                refine VO.y rfl (.fa rfl tst47 rfl) ?_
                obtain ⟨q66_E, q66_A2, q66_c2, q66_n0, q66_n2, _, q66_S, q66_0, q66_2⟩ := openP_runRuns (x0 := (gd_, (dWrite D_ 2 ((fAppend [] ((runEncode d1).1)).1)).1)) (x1 := br_) (x2 := l_) ho40
                dsimp only at q66_0
                have q66_r2 := q66_2.rm
                refine VO.inv _ (fun _ h => h.parts (i := 140) rfl q66_S [169, 167, 168]) ?_
                refine VO.store (k := 1) (c' := [Value.pointer (some ⟨gd_, 0, none⟩), Value.bool true, Value.slice q66_A2 (l_.length) (q66_c2)]) 169 rfl rfl (.inr ⟨tk4, rfl⟩) rfl rfl rfl rfl rfl ?_
                refine VO.clsP 170 [169, 167, 168] rfl (fun hg70 => (mkP_runRuns (gd_, (dWrite D_ 2 ((fAppend [] ((runEncode d1).1)).1)).1) true l_ hg70 q66_0 q66_2)) (fun mc70 ho70 => ?_)
                refine VO.kp [170, 129, 124, 102, 0] [(170, mc70), (129, m29), (124, m24), (102, mone g1 (.cells [Value.int .i64 (d1.1), Value.int .i64 (d1.2.1), Value.slice p1_A2 (d1.2.2.length) (p1_c2)].toArray 92 (0, 0))), (0, mout (wm W) (m0))] ?_
                refine VO.k14 0 1 3 4 5 6 7 9 21 31 38 45 53 60 ?_
                refine VC.rs ?_
                refine VO.mv ?_
                refine VO.as ?_
                refine VO.k14 0 1 3 4 5 6 7 9 21 31 38 45 53 60 ?_
                refine VC.ret ?_
                refine outR ?_
                refine ⟨_, _, res_run (rs := [.tmp 4]) rfl (.tmp rfl .nil), fun W_ hI => out_of (l := [mc70]) hI [170] rfl rfl (mle_refl _) (fun hS_ => ?_)⟩
                dsimp only [packV]
                have hm0_ : (((gd_, (uFlush D_ br_ l_ d1).1.1), (uFlush D_ br_ l_ d1).1.2) : DrunRuns) = ((gd_, (dWrite D_ 2 ((fAppend [] ((runEncode d1).1)).1)).1), true, l_) := by first | rfl | (exact fin0_uFlush_ok)
                refine ⟨?_, ?_⟩
                rotate_left
                · rw [hm0_]; exact (Ow.up ho70 (hS_.1 _ (.head _)))
                all_goals (first | rfl | (exact fin0_uFlush_ok))
            · -- FFFFFF
              exact absurd (by rw [enc_frame (by assumption)]) hc32
theorem uOpenY_ok (W : World) {m0 : Mem} (hm : mle (m0) (wm W)) {g0 : Nat} {d0 : DdiskDisk} (h0 : Ow (.ptr TdiskDisk) m0 [.pointer (some ⟨g0, 0, none⟩)] (g0, d0)) (e0 : okD d0) (e1 : wD d0 + 200000 ≤ 1000000000000) (e2 : (uOpen d0).2 = 0) : CallR Tryz.prog 19 [.pointer (some ⟨g0, 0, none⟩)] W (m0) (fun v m' => ∃ (s0 : Nat), v = .tuple #[.pointer (some ⟨s0, 0, none⟩), .int .i64 (0)] ∧ Ow (.ptr TrunRuns) m' [.pointer (some ⟨s0, 0, none⟩)] (s0, ((g0, (uOpen d0).1), false, (runF (dRead d0 2).1).1))) := by
  refine CallR.ofB (n := 42) hm Tryz.func19 rfl rfl rfl ?_
  refine VC.rs ?_
  refine VO.as ?_
  refine VO.as ?_
  refine VO.k3 0 2 3 ?_
  refine VC.rs ?_
  refine VO.mv ?_
  refine VO.call 1 rfl fnOk51 rfl rfl (fun W hW => dRead_ok W (hW.at (i := 1) rfl) h0 2 bdk (by assumption) bd) (fun v1 m1 hv1 => ?_)
  obtain ⟨s1_0, p1_0, p1_1, rfl, hS1, f1_0, w1_0⟩ := hv1
  refine VO.inv _ (fun _ h => h.parts (i := 1) rfl hS1 [102, 103]) ?_
  have hfa4 := (read_size d0 2)
  obtain ⟨A1_0, c1_0, eq1_0, l1_0, k1_0⟩ := f1_0.slice
  subst eq1_0
  simp only [maxLen] at k1_0
  refine VO.mv ?_
  refine VO.y rfl (.ext rfl rfl) ?_
  refine VO.y rfl (.ext rfl rfl) ?_
  refine VO.as ?_
  refine VO.as ?_
  refine VO.k5 0 2 3 4 5 ?_
  refine VC.seq ?_
  refine VC.rs ?_
  refine VO.mv ?_
  refine VO.y rfl (.neq rfl rfl) ?_
  refine VO.kp [102, 103, 0] [(102, p1_0), (103, p1_1), (0, mout (wm W) (m0))] ?_
  refine VO.k6 0 2 3 4 5 16 ?_
  refine VC.cond rfl (fun hc5 => ?_) (fun hc5 => ?_)
  · -- T
    rw [uopen_bad hc5] at e2; exact absurd e2 hc5
  · -- F
    refine VC.skip ?_
    refine outN ?_
    refine VC.rs ?_
    refine VO.mv ?_
    refine VO.callN 106 rfl fnOk52 rfl (fun W hW => uScan_ok W (OwnL.rd (Ow.ownl f1_0 rfl mnil) (hW.at (i := 102) rfl) (mle_nil _)) bd) (fun v6 m6 hv6 => ?_)
    obtain ⟨s6_0, rfl, f6_0⟩ := hv6
    have hfa7 := runF_bounds ((dRead d0 2).1)
    obtain ⟨A6_0, c6_0, eq6_0, l6_0, k6_0⟩ := f6_0.slice
    subst eq6_0
    simp only [maxLen] at k6_0
    refine VO.mv ?_
    refine VO.y rfl (.ext rfl rfl) ?_
    refine VO.y rfl (.ext rfl rfl) ?_
    refine VO.as ?_
    refine VO.as ?_
    refine VO.k8 0 2 3 4 5 6 7 16 ?_
    refine VC.seq ?_
    refine VC.rs ?_
    refine VO.mv ?_
    refine VO.mv ?_
    refine VO.y rfl (.lenS rfl tsl97) ?_
    refine VO.y rfl (.lss rfl rfl) ?_
    refine VO.k9 0 2 3 4 5 6 7 16 26 ?_
    refine VC.cond rfl (fun hc8 => ?_) (fun hc8 => ?_)
    · -- FT
      refine VC.seq ?_
      refine VC.rs ?_
      refine VO.mv ?_
      refine VO.mv ?_
      refine VO.call 103 rfl fnOk53 rfl rfl (fun W hW => dCut_ok W (hW.at (i := 103) rfl) w1_0 2 bdk ((runF ((dRead d0 2).1)).2) bdk (by assumption) bd) (fun v9 m9 hv9 => ?_)
      obtain ⟨rfl, w9_0⟩ := hv9
      have hfa10 := (cut_ok (f := 2) (n := ((runF ((dRead d0 2).1)).2)) (show okD d0 by assumption))
      have hfa11 := (cut_w (f := 2) (n := ((runF ((dRead d0 2).1)).2)) (show okD d0 by assumption))
      refine VO.as ?_
      refine VO.kp [103, 106, 102, 0] [(103, m9), (106, m6), (102, p1_0), (0, mout (wm W) (m0))] ?_
      refine VO.k10 0 2 3 4 5 6 7 8 16 26 ?_
      refine VC.rs ?_
      refine VO.mv ?_
      refine VO.y rfl (.neq rfl rfl) ?_
      refine VO.k11 0 2 3 4 5 6 7 8 16 26 31 ?_
      refine VC.cond rfl (fun hc12 => ?_) (fun hc12 => ?_)
      · -- FTT
        rw [uopen_cutbad (by assumption) (by assumption) hc12] at e2; exact absurd e2 hc12
      · -- FTF
        refine VC.skip ?_
        refine outN ?_
        refine VC.rs ?_
        refine VO.mv ?_
        refine VO.call 103 rfl fnOk54 rfl rfl (fun W hW => dSync_ok W (hW.at (i := 103) rfl) w9_0 (by assumption) bd) (fun v13 m13 hv13 => ?_)
        obtain ⟨rfl, w13_0⟩ := hv13
        have hfa14 := (sync_ok (show okD ((dCut d0 2 ((runF ((dRead d0 2).1)).2)).1) by assumption))
        have hfa15 := (sync_w (show okD ((dCut d0 2 ((runF ((dRead d0 2).1)).2)).1) by assumption))
        refine VO.as ?_
        refine VO.k12 0 2 3 4 5 6 7 8 9 16 26 31 ?_
        refine VC.rs ?_
        refine VO.mv ?_
        refine VO.y rfl (.neq rfl rfl) ?_
        refine VO.kp [103, 106, 102, 0] [(103, m13), (106, m6), (102, p1_0), (0, mout (wm W) (m0))] ?_
        refine VO.k13 0 2 3 4 5 6 7 8 9 16 26 31 36 ?_
        refine VC.cond rfl (fun hc16 => ?_) (fun hc16 => ?_)
        · -- FTFT
          rw [uopen_sync (by assumption) (by assumption) (by assumption)] at e2; exact absurd e2 hc16
        · -- FTFF
          refine VC.skip ?_
          refine outN ?_
          refine VC.rs ?_
          refine VO.mv ?_
          refine VO.mv ?_
          refine VO.y rfl (.bst (cs := [Value.pointer (some ⟨g0, 0, none⟩), Value.bool false, Value.slice A6_0 (((runF ((dRead d0 2).1)).1).length) (c6_0)]) rfl tst47 tz47 rfl) ?_
          refine VO.box (cs := [Value.pointer (some ⟨g0, 0, none⟩), Value.bool false, Value.slice A6_0 (((runF ((dRead d0 2).1)).1).length) (c6_0)]) 118 rfl rfl rfl (fun g17 => ?_)
          refine VO.as ?_
          refine VO.as ?_
          refine VO.k13 0 2 3 4 5 6 7 8 9 16 26 31 36 ?_
          refine VC.ret ?_
          refine ⟨_, _, res_run (rs := [.tmp 2, .tmp 3]) rfl (.tmp rfl (.tmp rfl .nil)), fun W_ hI => out_of (l := [mone g17 (.cells [Value.pointer (some ⟨g0, 0, none⟩), Value.bool false, Value.slice A6_0 (((runF ((dRead d0 2).1)).1).length) (c6_0)].toArray 47 (0, 0)), m13, m6]) hI [118, 103, 106] rfl rfl (mle_refl _) (fun hS_ => ?_)⟩
          dsimp only [packV]
          have he0 : (((g0, (uOpen d0).1), false, (runF (dRead d0 2).1).1) : DrunRuns) = ((g0, (dSync ((dCut d0 2 ((runF ((dRead d0 2).1)).2)).1)).1), false, (runF ((dRead d0 2).1)).1) := by first | rfl | (first | (rw [uopen_bad (by assumption)] <;> first | rfl | done) | (rw [uopen_whole (by assumption) (by assumption)] <;> first | rfl | done) | (rw [uopen_cutbad (by assumption) (by assumption) (by assumption)] <;> first | rfl | done) | (rw [uopen_sync (by assumption) (by assumption) (by assumption)] <;> first | rfl | done))
          refine ⟨g17, ?_, ?_⟩
          rotate_left
          · rw [he0]; exact (mkP_runRuns (g0, (dSync ((dCut d0 2 ((runF ((dRead d0 2).1)).2)).1)).1) false ((runF ((dRead d0 2).1)).1) hS_ w13_0 f6_0)
          all_goals (first | rfl | (first | (rw [uopen_bad (by assumption)] <;> first | rfl | done) | (rw [uopen_whole (by assumption) (by assumption)] <;> first | rfl | done) | (rw [uopen_cutbad (by assumption) (by assumption) (by assumption)] <;> first | rfl | done) | (rw [uopen_sync (by assumption) (by assumption) (by assumption)] <;> first | rfl | done)))
    · -- FF
      refine VC.skip ?_
      refine outN ?_
      refine VC.rs ?_
      refine VO.mv ?_
      refine VO.mv ?_
      refine VO.y rfl (.bst (cs := [Value.pointer (some ⟨g0, 0, none⟩), Value.bool false, Value.slice A6_0 (((runF ((dRead d0 2).1)).1).length) (c6_0)]) rfl tst47 tz47 rfl) ?_
      refine VO.box (cs := [Value.pointer (some ⟨g0, 0, none⟩), Value.bool false, Value.slice A6_0 (((runF ((dRead d0 2).1)).1).length) (c6_0)]) 120 rfl rfl rfl (fun g19 => ?_)
      refine VO.as ?_
      refine VO.as ?_
      refine VO.kp [120, 106, 102, 103, 0] [(120, mone g19 (.cells [Value.pointer (some ⟨g0, 0, none⟩), Value.bool false, Value.slice A6_0 (((runF ((dRead d0 2).1)).1).length) (c6_0)].toArray 47 (0, 0))), (106, m6), (102, p1_0), (103, p1_1), (0, mout (wm W) (m0))] ?_
      refine VO.k9 0 2 3 4 5 6 7 16 26 ?_
      refine VC.ret ?_
      refine ⟨_, _, res_run (rs := [.tmp 2, .tmp 3]) rfl (.tmp rfl (.tmp rfl .nil)), fun W_ hI => out_of (l := [mone g19 (.cells [Value.pointer (some ⟨g0, 0, none⟩), Value.bool false, Value.slice A6_0 (((runF ((dRead d0 2).1)).1).length) (c6_0)].toArray 47 (0, 0)), p1_1, m6]) hI [120, 103, 106] rfl rfl (mle_refl _) (fun hS_ => ?_)⟩
      dsimp only [packV]
      have he0 : (((g0, (uOpen d0).1), false, (runF (dRead d0 2).1).1) : DrunRuns) = ((g0, d0), false, (runF ((dRead d0 2).1)).1) := by first | rfl | (first | (rw [uopen_bad (by assumption)] <;> first | rfl | done) | (rw [uopen_whole (by assumption) (by assumption)] <;> first | rfl | done) | (rw [uopen_cutbad (by assumption) (by assumption) (by assumption)] <;> first | rfl | done) | (rw [uopen_sync (by assumption) (by assumption) (by assumption)] <;> first | rfl | done))
      refine ⟨g19, ?_, ?_⟩
      rotate_left
      · rw [he0]; exact (mkP_runRuns (g0, d0) false ((runF ((dRead d0 2).1)).1) hS_ w1_0 f6_0)
      all_goals (first | rfl | (first | (rw [uopen_bad (by assumption)] <;> first | rfl | done) | (rw [uopen_whole (by assumption) (by assumption)] <;> first | rfl | done) | (rw [uopen_cutbad (by assumption) (by assumption) (by assumption)] <;> first | rfl | done) | (rw [uopen_sync (by assumption) (by assumption) (by assumption)] <;> first | rfl | done)))
def bwE (mf : Mem) (l : List DRun) (a : Int) (args : List Value) (mr : Mem) : Prop := 0 ≤ a ∧ a < l.length ∧ mr = mnil ∧ ∃ x cs, l[a.toNat]? = some x ∧ args = [.int .i64 a, .agg cs.toArray] ∧ Rd TRun mf cs x
def bwN (a : Int) : Int := a - 1
def bwD (a : Int) : Prop := a < 0
theorem bw1_ok {l : List DRun} {gc : Nat} {v : Value} {mf : Mem} (hl : Rd (.sl TRun) mf [v] l) :
    IterR Tryz.prog 129 [.pointer (some ⟨gc, 0, none⟩)] mf (mone gc (.cells [v].toArray 45 (0, 0))) (bwE mf l) bwN ((l.length : Int) - 1) bwD := by
  intro G M I X lp W g0 h0 hm hdj hmf hdf hy
  obtain ⟨A, c, rfl, l0, k0⟩ := hl.slice
  simp only [maxLen] at k0
  refine CallR.ofX (n := 19) Tryz.func129 rfl rfl rfl hm ?_
  refine VX.parts 1 [1, 2] (l := [M g0, mone gc (.cells [(.slice A l.length c : Value)].toArray 45 (0, 0))]) rfl ⟨fun x hx => ?_, List.pairwise_cons.2 ⟨fun x hx => ?_, List.pairwise_singleton _ _⟩⟩ ?_
  · simp only [List.mem_cons, List.not_mem_nil, or_false] at hx
    rcases hx with rfl | rfl
    · exact mle_un_left _ _
    · exact mle_un_right hdj
  · simp only [List.mem_cons, List.not_mem_nil, or_false] at hx
    subst hx; exact hdj
  refine VX.rs ?_
  refine VO.y rfl (.ld1 2 rfl (by kernel_rfl) rfl (cellsAt_one rfl rfl)) ?_
  refine VO.y rfl (.lenS rfl tsl45) ?_
  refine VO.y rfl (.sub (c := (l.length : Int) - 1) rfl rfl rfl ⟨by omega, by omega⟩) ?_
  refine VO.as ?_
  refine VO.k3 0 1 3 ?_
  refine VX.block ?_
  refine VX.loop (G := Int × G) (fun s => [(0, .func (.yield lp) #[] #[]), (1, .pointer (some ⟨gc, 0, none⟩)), (3, .int .i64 s.1)]) (fun s => [(1, M s.2), (2, mone gc (.cells [(.slice A l.length c : Value)].toArray 45 (0, 0))), (0, mout (wm W) (mun (M g0) (mone gc (.cells [(.slice A l.length c : Value)].toArray 45 (0, 0)))))]) (fun s => I s.1 s.2 ∧ -1 ≤ s.1 ∧ s.1 < l.length) (fun s => (s.1 + 1).toNat) ((l.length : Int) - 1, g0) ⟨h0, by dsimp only; omega, by dsimp only; omega⟩ ⟨⟨rfl, rfl, rfl, trivial⟩, fun _ h => h.sub [1, 2, 0]⟩ ?_
  rintro ⟨a, g⟩ ⟨hI, ha, hal⟩
  dsimp only at hI ha hal
  show VX _ _ _ _ _ _ _ [(0, .func (.yield lp) #[] #[]), (1, .pointer (some ⟨gc, 0, none⟩)), (3, .int .i64 a)] [(1, M g), (2, mone gc (.cells [(.slice A l.length c : Value)].toArray 45 (0, 0))), (0, mout (wm W) (mun (M g0) (mone gc (.cells [(.slice A l.length c : Value)].toArray 45 (0, 0)))))]
  refine VX.seq ?_
  refine VX.rs ?_
  refine VO.mv ?_
  refine VO.y rfl (.geq rfl rfl) ?_
  refine VO.k4 0 1 3 8 ?_
  refine VX.cond rfl (fun hc => ?_) (fun hc => ?_)
  · refine VX.skip (outN ?_)
    refine VX.seq (VX.block ?_)
    refine VX.seq ?_
    obtain ⟨x, hx⟩ : ∃ x, l[a.toNat]? = some x := ⟨_, List.getElem?_eq_getElem (by omega)⟩
    obtain ⟨gg, oo, ec, ea, hce, hre⟩ := hl.elem hx
    cases ea
    refine VX.regL _ (hix := ?_) (VL.pre (r := [6, 7]) 6 (by kernel_rfl) ?_)
    · kernel_rfl
    refine VO.mv ?_
    refine VO.mv ?_
    refine VO.y rfl (.ld1 2 rfl (by kernel_rfl) rfl (cellsAt_one rfl rfl)) ?_
    refine VO.mv ?_
    refine VO.y rfl (.ixI a.toNat rfl rfl tsl45 (by omega) (by omega)) ?_
    refine VO.y rfl (.ldA 0 rfl (by kernel_rfl) rfl (hce.mono (mle_out hmf hdf))) ?_
    refine VO.nil ?_
    refine VL.yield 1 rfl rfl (.inl rfl) rfl rfl rfl (fun W' hW => by have h_ := hy a g _ mnil W' hI ⟨hc, hal, rfl, x, ec, hx, rfl, hre⟩ ((hW.nilc 9).sub [0, 1, 9]).three; rw [mun_nil] at h_; exact h_) (fun v m' hv => ?_)
    obtain ⟨g', rfl, hv⟩ := hv
    rcases hv with ⟨rfl, hI'⟩ | ⟨rfl, hX⟩
    · refine VL.post 7 rfl (by kernel_rfl) ?_
      refine VO.y rfl (.not rfl) ?_
      refine VO.k4 0 1 3 18 ?_
      refine outN (VX.condF rfl ?_)
      refine VX.skip (outBN (outN ?_))
      refine VX.reg ?_
      refine VO.mv ?_
      refine VO.y rfl (.sub (c := bwN a) rfl rfl rfl ⟨by unfold bwN; omega, by unfold bwN; omega⟩) ?_
      refine VO.as ?_
      refine VO.nil ?_
      refine outN ⟨rfl, (bwN a, g'), ⟨hI', by unfold bwN; dsimp only; omega, by unfold bwN; dsimp only; omega⟩, by unfold bwN; dsimp only; omega, ⟨⟨rfl, rfl, rfl, trivial⟩, fun _ h => h.sub [1, 2, 0]⟩⟩
    · refine VL.post 7 rfl (by kernel_rfl) ?_
      refine VO.y rfl (.not rfl) ?_
      refine VO.k4 0 1 3 18 ?_
      refine outN (VX.condT rfl ?_)
      refine VX.ret ?_
      refine outBR (outR (outR (outBR ?_)))
      refine ⟨_, _, res_run (rs := []) rfl .nil, fun W_ hI_ => out_of (l := [M g']) hI_ [1] rfl rfl (mle_refl _) (fun hS_ => ⟨g', mun_nil _, .inl hX⟩)⟩
  · refine VX.exit (outE (outE (outBB ?_)))
    refine ⟨_, _, res_run (rs := []) rfl .nil, fun W_ hI_ => out_of (l := [M g]) hI_ [1] rfl rfl (mle_refl _) (fun hS_ => ⟨g, mun_nil _, .inr ⟨a, hI, by unfold bwD; omega⟩⟩)⟩
theorem bw_ok (W : World) {mf : Mem} (hmf : mle mf (wm W)) {v0 : Value} {d0 : List DRun} (h0 : Rd (.sl TRun) mf [v0] d0) : CallR Tryz.prog 89 [v0] W mnil (fun v m' => ∃ caps, v = .func (.func 129) #[] (List.toArray caps) ∧ IterR Tryz.prog 129 caps mf m' (bwE mf d0) bwN ((d0.length : Int) - 1) bwD) := by
  obtain ⟨A, c, rfl, _, _⟩ := h0.slice
  refine CallR.ofA (n := 4) Tryz.func89 rfl rfl rfl ?_
  refine VC.rs ?_
  refine VO.box (cs := [(.slice A d0.length c : Value)]) 101 rfl rfl rfl (fun g1 => ?_)
  refine VO.as ?_
  refine VO.k1 1 ?_
  refine VC.rs ?_
  refine VO.y rfl (.mkf rfl) ?_
  refine VO.as ?_
  refine VO.k1 2 ?_
  refine VC.ret ?_
  refine ⟨_, _, res_run (rs := [.tmp 2]) rfl (.tmp rfl .nil), fun W_ hI => out_of (l := [mone g1 (.cells [(.slice A d0.length c : Value)].toArray 45 (0, 0))]) hI [101] rfl rfl (mle_refl _) (fun hS_ => ⟨[.pointer (some ⟨g1, 0, none⟩)], rfl, ?_⟩)⟩
  show IterR _ _ _ _ (mun _ mnil) _ _ _ _
  rw [mun_nil]
  exact bw1_ok h0
/-- the key at a place of a list of ops -/
def kAt (l : List DOp) (i : Nat) : Bytes := (l[i]?.getD (false, [], [])).2.1
theorem kAt_of {l : List DOp} {i : Nat} {x : DOp} (h : l[i]? = some x) : kAt l i = x.2.1 := by unfold kAt; rw [h]; rfl
def geK (l : List DOp) (k : Bytes) (i : Nat) : Bool := decide (¬ kl (kAt l i) k)
def opAns : Option DOp → Bytes × Bool × Bool
  | some o => (o.2.2, true, o.1)
  | none => ([], false, false)
def findK (l : List DOp) (k : Bytes) : Option DOp := l.find? fun o => decide (o.2.1 = k)
def getRev : List DRun → Bytes → Option DOp
  | [], _ => none
  | r :: l, k => match findK r.2.2 k with
    | some o => some o
    | none => getRev l k
def getR (l : List DRun) (k : Bytes) : Bytes × Bool × Bool := opAns (getRev l.reverse k)
section
variable {l : List DOp} {k : Bytes} {i j : Nat} {x : DOp} {u : List DRun} {r : DRun}
theorem ups_lt {y : DOp} (h : opsUp l) (hx : l[i]? = some x) (hy : l[j]? = some y) (hij : i < j) : kl x.2.1 y.2.1 := by
  obtain ⟨h1, e1⟩ := List.getElem?_eq_some_iff.1 hx
  obtain ⟨h2, e2⟩ := List.getElem?_eq_some_iff.1 hy
  have := List.pairwise_iff_getElem.1 h.2 _ _ h1 h2 hij
  rwa [e1, e2] at this
theorem find_at (h : opsUp l) (hx : l[i]? = some x) (he : x.2.1 = k) : findK l k = some x := by
  unfold findK
  cases hf : l.find? fun o => decide (o.2.1 = k) with
  | none =>
    have := List.find?_eq_none.1 hf x (List.mem_of_getElem? hx)
    rw [he] at this; simp at this
  | some y =>
    have hy := List.find?_some hf
    simp only [decide_eq_true_eq] at hy
    obtain ⟨j, hj⟩ := List.getElem?_of_mem (List.mem_of_find?_eq_some hf)
    rcases Nat.lt_trichotomy i j with q | q | q
    · have := ups_lt h hx hj q; rw [he, hy] at this; exact absurd this (kl_irrefl _)
    · subst q; rw [hx] at hj; exact hj.symm
    · have := ups_lt h hj hx q; rw [he, hy] at this; exact absurd this (kl_irrefl _)
/-- where the search has ended, and the key is not there, it is nowhere -/
theorem find_not (h : opsUp l) (hi : i ≤ l.length) (h1 : i < l.length → geK l k i = true) (h2 : 0 < i → geK l k (i - 1) = false) (hn : ∀ x, l[i]? = some x → ¬ x.2.1 = k) : findK l k = none := by
  unfold findK
  refine List.find?_eq_none.2 fun y hy => ?_
  obtain ⟨j, hj⟩ := List.getElem?_of_mem hy
  have hjl := (List.getElem?_eq_some_iff.1 hj).1
  simp only [decide_eq_true_eq]
  intro e
  rcases Nat.lt_trichotomy j i with q | q | q
  · have h3 := h2 (by omega)
    have h4 : kl (kAt l (i - 1)) k := by unfold geK at h3; simpa using h3
    obtain ⟨z, hz⟩ : ∃ z, l[i - 1]? = some z := ⟨_, List.getElem?_eq_getElem (by omega)⟩
    rw [kAt_of hz] at h4
    rcases Nat.lt_or_ge j (i - 1) with q2 | q2
    · have := kl_trans (ups_lt h hj hz q2) h4; rw [e] at this; exact kl_irrefl _ this
    · have : j = i - 1 := by omega
      subst this; rw [hj] at hz; cases hz; rw [e] at h4; exact kl_irrefl _ h4
  · subst q; exact hn y hj e
  · have h3 := h1 (by omega)
    have h4 : ¬ kl (kAt l i) k := by unfold geK at h3; simpa using h3
    obtain ⟨z, hz⟩ : ∃ z, l[i]? = some z := ⟨_, List.getElem?_eq_getElem (by omega)⟩
    rw [kAt_of hz] at h4
    have := ups_lt h hz hj q; rw [e] at this; exact h4 this
theorem getRev_take {n : Nat} (hx : u[n]? = some r) : getRev (u.take (n + 1)).reverse k = (match findK r.2.2 k with | some o => some o | none => getRev (u.take n).reverse k) := by
  rw [take_one hx, List.reverse_append]; rfl
/-- so far, from the last on: nothing of the key. -/
def getAt (u : List DRun) (k : Bytes) (a : Int) : Prop := -1 ≤ a ∧ a < u.length ∧ getR u k = opAns (getRev (u.take (a + 1).toNat).reverse k)
theorem getAt_0 (u : List DRun) (k : Bytes) : getAt u k ((u.length : Int) - 1) := ⟨by omega, by omega, by
  unfold getR; rw [List.take_of_length_le (by omega)]⟩
theorem getAt_next {a : Int} (h : getAt u k a) (h0 : 0 ≤ a) (hx : u[a.toNat]? = some r) (hf : findK r.2.2 k = none) : getAt u k (a - 1) := by
  refine ⟨by omega, by have := h.2.1; omega, ?_⟩
  rw [h.2.2, show (a + 1).toNat = a.toNat + 1 by omega, getRev_take hx, hf, show (a - 1 + 1).toNat = a.toNat by omega]
theorem getAt_hit {a : Int} {o : DOp} (h : getAt u k a) (h0 : 0 ≤ a) (hx : u[a.toNat]? = some r) (hf : findK r.2.2 k = some o) : getR u k = (o.2.2, true, o.1) := by
  rw [h.2.2, show (a + 1).toNat = a.toNat + 1 by omega, getRev_take hx, hf]; rfl
theorem getAt_end {a : Int} (h : getAt u k a) (ha : a < 0) : getR u k = ([], false, false) := by
  rw [h.2.2, show (a + 1).toNat = 0 by omega]; rfl
end
theorem fnOk89 : fnOk Tryz.prog 89 = true := by kernel_rfl
theorem fnOk90 : fnOk Tryz.prog 90 = true := by kernel_rfl
theorem fnOk91 : fnOk Tryz.prog 91 = true := by kernel_rfl
theorem tz4 : tz Tryz.prog 4 = some [.bool false] := by kernel_rfl
theorem tz9 : tz Tryz.prog 9 = some [.string ⟨#[]⟩] := by kernel_rfl
theorem search_ok (W : World) (d0 : Nat) (h0 : d0 < 9223372036854775808) {gf1 : FuncId} {caps1 : List Value} {p1 : Nat → Bool} (hf1 : fnOk Tryz.prog gf1 = true) (h1 : ∀ W', mle (wm W) (wm W') → ∀ i : Nat, i < d0 → CallR Tryz.prog gf1 (.int .i64 ((i : Nat) : Int) :: caps1) W' mnil (fun v _ => v = .bool (p1 i))) (e0 : d0 ≤ 4611686018427387903) : CallR Tryz.prog 90 [.int .i64 (d0 : Int), .func (.func gf1) #[] caps1.toArray] W (mnil) (fun v m' => ∃ (kq : Nat), v = .int .i64 ((kq : Nat) : Int) ∧ kq ≤ d0 ∧ (kq < d0 → p1 kq = true) ∧ (0 < kq → p1 (kq - 1) = false)) := by
  refine CallR.ofA (n := 26) Tryz.func90 rfl rfl rfl ?_
  refine VC.rs ?_
  refine VO.as ?_
  refine VO.k3 0 1 4 ?_
  refine VC.rs ?_
  refine VO.mv ?_
  refine VO.as ?_
  refine VO.as ?_
  refine VO.k5 0 1 4 5 6 ?_
  refine VC.seq ?_
  refine VC.block ?_
  refine VC.loop (G := Nat × Nat) (fun g => [(5, Value.int .i64 ((((g.1) : Nat) : Int))), (6, Value.int .i64 ((((g.2) : Nat) : Int))), (0, Value.int .i64 (((d0 : Nat) : Int))), (1, Value.func (.func gf1) #[] caps1.toArray), (4, Value.int .i64 (0))]) (fun g => [(0, wm W)]) (fun g => ((g.1) ≤ (g.2)) ∧ ((g.2) ≤ d0) ∧ (0 < (g.1) → p1 ((g.1) - 1) = false) ∧ ((g.2) < d0 → p1 (g.2) = true)) (fun g => (g.2) - (g.1)) (0, d0) (⟨by omega, by omega, by (intro h_; exact absurd h_ (by omega)), by (intro h_; exact absurd h_ (by omega))⟩) ⟨⟨rfl, rfl, rfl, rfl, rfl, trivial⟩, fun _ h => h.sub [0]⟩ ?_
  rintro ⟨i, j⟩ ⟨hij, hj, hp1, hp2⟩
  replace hij : i ≤ j := hij
  replace hj : j ≤ d0 := hj
  replace hp1 : 0 < i → p1 (i - 1) = false := hp1
  replace hp2 : j < d0 → p1 j = true := hp2
  show VC _ _ _ _ _ [(5, Value.int .i64 (((i : Nat) : Int))), (6, Value.int .i64 (((j : Nat) : Int))), (0, Value.int .i64 (((d0 : Nat) : Int))), (1, Value.func (.func gf1) #[] caps1.toArray), (4, Value.int .i64 (0))] [(0, wm W)]
  refine VC.seq ?_
  refine VC.rs ?_
  refine VO.mv ?_
  refine VO.mv ?_
  refine VO.y rfl (.lss rfl rfl) ?_
  refine VO.kp [0] [(0, wm W)] ?_
  refine VO.k6 0 1 4 5 6 11 ?_
  refine VC.cond rfl (fun hc1 => ?_) (fun hc1 => ?_)
  · -- T
    refine VC.skip ?_
    refine outN ?_
    refine VC.block ?_
    refine VC.rs ?_
    refine VO.mv ?_
    refine VO.mv ?_
    refine VO.y rfl (.add (c := ((i + j : Nat) : Int)) rfl rfl (by omega) ⟨bd, bd⟩) ?_
    refine VO.y rfl (.cvI rfl ⟨_, Tryz.underlying3⟩ Tryz.underlying166 (IntWalk.u64_in _ bd)) ?_
    refine VO.y rfl (.shf (.inr rfl) rfl rfl (shr1 _)) ?_
    refine VO.y rfl (.cvI rfl ⟨_, Tryz.underlying166⟩ Tryz.underlying3 (IntWalk.i64_in _ bd)) ?_
    refine VO.as ?_
    refine VO.k7 0 1 4 5 6 7 11 ?_
    refine VC.rs ?_
    refine VO.mv ?_
    refine VO.mv ?_
    refine VO.callVN 102 rfl rfl hf1 rfl (fun W_ hW_ => h1 W_ (hW_.at (i := 0) rfl) ((i + j) / 2) bd) (fun v2 m2 hv2 => ?_)
    subst hv2
    refine VO.y rfl (.not rfl) ?_
    refine VO.k8 0 1 4 5 6 7 11 21 ?_
    refine VC.condBN rfl (fun hc3 => ?_) (fun hc3 => ?_)
    · -- TT
      refine VC.reg ?_
      refine VO.mv ?_
      refine VO.y rfl (.add (c := ((((i + j) / 2) + 1 : Nat) : Int)) rfl rfl (by omega) ⟨bd, bd⟩) ?_
      refine VO.as ?_
      refine VO.kp [0] [(0, wm W)] ?_
      refine VO.k8 0 1 4 5 6 7 11 21 ?_
      refine outBN ?_
      exact outN ⟨⟨((i + j) / 2) + 1, j⟩, ⟨by omega, by omega, by first | exact hp1 | (intro _; rw [show (i + j) / 2 + 1 - 1 = (i + j) / 2 by omega]; assumption), by first | exact hp2 | (intro _; assumption)⟩, bd, ⟨⟨rfl, rfl, rfl, rfl, rfl, trivial⟩, fun _ h => Inv.sub h [0]⟩⟩
    · -- TF
      refine VC.reg ?_
      refine VO.mv ?_
      refine VO.as ?_
      refine VO.kp [0] [(0, wm W)] ?_
      refine VO.k8 0 1 4 5 6 7 11 21 ?_
      refine outBN ?_
      exact outN ⟨⟨i, (i + j) / 2⟩, ⟨by omega, by omega, by first | exact hp1 | (intro _; rw [show (i + j) / 2 + 1 - 1 = (i + j) / 2 by omega]; assumption), by first | exact hp2 | (intro _; assumption)⟩, bd, ⟨⟨rfl, rfl, rfl, rfl, rfl, trivial⟩, fun _ h => Inv.sub h [0]⟩⟩
  · -- F
    refine VC.exit ?_
    refine outE ?_
    refine outE ?_
    refine outBB ?_
    refine outN ?_
    refine VC.rs ?_
    refine VO.mv ?_
    refine VO.as ?_
    refine VO.k6 0 1 4 5 6 11 ?_
    refine VC.ret ?_
    refine ⟨_, _, res_run (rs := [.tmp 4]) rfl (.tmp rfl .nil), fun W_ hI => out_of (l := []) hI [] rfl rfl (mle_refl _) (fun hS_ => ?_)⟩
    dsimp only [packV]
    refine ⟨i, ?_, ?_, ?_, ?_⟩
    rotate_left
    · (omega)
    · ((intro h_; have e_ : i = j := (by omega); subst e_; exact hp2 h_))
    · (exact hp1)
    all_goals (first | rfl | (simp [*]; done))
theorem get1_ok (W : World) (d0 : Nat) (h0 : d0 < 9223372036854775808) {g1 : Nat} {E1 : TypeId} {v1 : List Value} {d1 : DRun} (h1 : Rd TRun (wm W) v1 d1) (b1 : mle (mone g1 (.cells v1.toArray E1 (0, 0))) (wm W)) {g2 : Nat} {E2 : TypeId} {v2 : List Value} {d2 : List UInt8} (h2 : Rd .str (wm W) v2 d2) (b2 : mle (mone g2 (.cells v2.toArray E2 (0, 0))) (wm W)) (e0 : d0 < d1.2.2.length) : CallR Tryz.prog 91 [.int .i64 (d0 : Int), .pointer (some ⟨g1, 0, none⟩), .pointer (some ⟨g2, 0, none⟩)] W (mnil) (fun v m' => v = .bool (geK d1.2.2 d2 d0)) := by
  have hrb1 := h1
  obtain ⟨p1_A2, p1_c2, rfl, p1_0, p1_1, p1_2⟩ := open_Run (x0 := d1.1) (x1 := d1.2.1) (x2 := d1.2.2) h1
  simp only [inK] at p1_0
  simp only [inK] at p1_1
  have p1_r2 := Rd.room p1_2
  have hceb1 : cellsAt (wm W) g1 0 3 [Value.int .i64 (d1.1), Value.int .i64 (d1.2.1), Value.slice p1_A2 (d1.2.2.length) (p1_c2)] := (cellsAt_one rfl rfl).mono b1
  have hrb2 := h2
  obtain ⟨rfl, _⟩ := h2
  have hceb2 : cellsAt (wm W) g2 0 1 [str (d2)] := (cellsAt_one rfl rfl).mono b2
  refine CallR.ofA (n := 13) Tryz.func91 rfl rfl rfl ?_
  refine VC.rs ?_
  refine VO.as ?_
  refine VO.k4 0 1 2 4 ?_
  refine VC.seq ?_
  refine VC.regD _ 7 [(0, true), (1, true), (2, true), (3, true), (4, true), (5, true), (6, true)] follows (by kernel_rfl) (fun _ h => h.sub [0]) ?_
  refine VD.y rfl rfl (.inl rfl) (.fa rfl tst92 rfl) ?_
  refine VD.y rfl rfl (.inl rfl) (.ld1 0 rfl tk34 rfl (hceb1.at1 (j := 2) rfl)) ?_
  refine VD.y rfl rfl (.inl rfl) (.mv rfl) ?_
  obtain ⟨x1, hx1⟩ : ∃ z_, (d1.2.2)[d0]? = some z_ := ⟨_, List.getElem?_eq_getElem bd⟩
  obtain ⟨gg1, oo1, ec1, ea1, hce1, hre1⟩ := p1_2.elem hx1
  cases ea1
  obtain ⟨rfl, q1_1, q1_2⟩ := open_Op (x0 := x1.1) (x1 := x1.2.1) (x2 := x1.2.2) hre1
  simp only [maxLen] at q1_1
  simp only [maxLen] at q1_2
  refine VD.y rfl rfl (.inl rfl) (.ixI d0 rfl rfl tsl34 rfl bd) ?_
  refine VD.y rfl rfl (.inl rfl) (.fa rfl tst64 rfl) ?_
  refine VD.y rfl rfl (.inl rfl) (.ld1 0 rfl tk9 rfl (hce1.at1 (j := 1) rfl)) ?_
  refine VD.y rfl rfl (.inl rfl) (.ld1 0 rfl tk9 rfl hceb2) ?_
  refine VD.nil rfl ?_ rfl
  refine VO.y rfl (.sgeq rfl rfl) ?_
  refine VO.as ?_
  refine VO.k4 0 1 2 4 ?_
  refine outN ?_
  refine VC.ret ?_
  refine ⟨_, _, res_run (rs := [.tmp 4]) rfl (.tmp rfl .nil), fun W_ hI => out_of (l := []) hI [] rfl rfl (mle_refl _) (fun hS_ => ?_)⟩
  dsimp only [packV]
  all_goals (first | rfl | (exact congrArg Value.bool (by unfold geK; rw [kAt_of ‹d1.2.2[d0]? = some _›])))
theorem uNoneB_ok (W : World) {g0 : Nat} {E0 : TypeId} {d0 : DrunRuns0} {b0_2 : Value} (hm : mle (mone g0 (.cells [(.pointer (d0.1.map fun g => ⟨g, 0, none⟩) : Value), .bool d0.2.1, b0_2].toArray E0 (0, 0))) (wm W)) (h0_2 : Rd (.sl TRun) (mout (wm W) (mone g0 (.cells [(.pointer (d0.1.map fun g => ⟨g, 0, none⟩) : Value), .bool d0.2.1, b0_2].toArray E0 (0, 0)))) [b0_2] d0.2.2) : CallR Tryz.prog 55 [.pointer (some ⟨g0, 0, none⟩)] W (mone g0 (.cells [(.pointer (d0.1.map fun g => ⟨g, 0, none⟩) : Value), .bool d0.2.1, b0_2].toArray E0 (0, 0))) (fun v m' => v = .bool (decide (d0.1 = none)) ∧ m' = mone g0 (.cells [(.pointer (d0.1.map fun g => ⟨g, 0, none⟩) : Value), .bool d0.2.1, b0_2].toArray E0 (0, 0))) := by
  obtain ⟨A0_2, c0_2, rfl, l0_2, k0_2⟩ := h0_2.slice
  simp only [maxLen] at k0_2
  refine CallR.ofB (n := 12) hm Tryz.func55 rfl rfl rfl ?_
  refine VC.rs ?_
  refine VO.as ?_
  refine VO.k2 0 2 ?_
  refine VC.rs ?_
  refine VO.mv ?_
  refine VO.y rfl (.pnil rfl rfl Tryz.underlying38 rfl) ?_
  refine VO.mv ?_
  refine VO.gy rfl ⟨_, rfl, rfl⟩ (.mv rfl) ?_
  refine VO.gy rfl ⟨_, rfl, rfl⟩ (.nilp rfl) ?_
  refine VO.gy rfl ⟨_, rfl, rfl⟩ (.fa rfl tst47 rfl) ?_
  refine VO.gy rfl ⟨_, rfl, rfl⟩ (.ld1 1 rfl tk44 rfl (cellsAt_one rfl rfl)) ?_
  refine VO.gy rfl ⟨_, rfl, rfl⟩ (.pnilO rfl rfl Tryz.underlying44) ?_
  refine VO.y rfl (.pF rfl rfl) ?_
  refine VO.as ?_
  refine VO.k2 0 2 ?_
  refine VC.ret ?_
  refine ⟨_, _, res_run (rs := [.tmp 2]) rfl (.tmp rfl .nil), fun W_ hI => out_of (l := [mone g0 (.cells [Value.pointer ((d0.1).map fun g => ⟨g, 0, none⟩), Value.bool d0.2.1, Value.slice A0_2 (d0.2.2.length) (c0_2)].toArray E0 (0, 0))]) hI [1] rfl rfl (mle_refl _) (fun hS_ => ?_)⟩
  dsimp only [packV]
  refine ⟨?_, ?_⟩
  rotate_left
  · rw [muns_one]
  all_goals (first | rfl | (simp [*]; done))
set_option maxHeartbeats 4000000 in
theorem uGet_ok (W : World) {g0 : Nat} {E0 : TypeId} {d0 : DrunRuns0} {b0_2 : Value} (hm : mle (mone g0 (.cells [(.pointer (d0.1.map fun g => ⟨g, 0, none⟩) : Value), .bool d0.2.1, b0_2].toArray E0 (0, 0))) (wm W)) (h0_2 : Rd (.sl TRun) (mout (wm W) (mone g0 (.cells [(.pointer (d0.1.map fun g => ⟨g, 0, none⟩) : Value), .bool d0.2.1, b0_2].toArray E0 (0, 0)))) [b0_2] d0.2.2) (d1 : List UInt8) (h1 : d1.length ≤ maxLen) (e0 : okU d0.2.2) (e1 : ¬ d0.1 = none) : CallR Tryz.prog 46 [.pointer (some ⟨g0, 0, none⟩), str d1] W (mone g0 (.cells [(.pointer (d0.1.map fun g => ⟨g, 0, none⟩) : Value), .bool d0.2.1, b0_2].toArray E0 (0, 0))) (fun v m' => v = .tuple #[str ((getR d0.2.2 d1).1), .bool ((getR d0.2.2 d1).2.1), .bool ((getR d0.2.2 d1).2.2)] ∧ m' = mone g0 (.cells [(.pointer (d0.1.map fun g => ⟨g, 0, none⟩) : Value), .bool d0.2.1, b0_2].toArray E0 (0, 0))) := by
  have hll := okU_len e0
  obtain ⟨A0_2, c0_2, rfl, l0_2, k0_2⟩ := h0_2.slice
  simp only [maxLen] at k0_2
  have h1' := h1; simp only [maxLen] at h1'
  refine CallR.ofX (n := 51) Tryz.func46 rfl rfl rfl hm ?_
  refine VX.rs ?_
  refine VO.box (cs := [str (d1)]) 102 rfl rfl rfl (fun g1 => ?_)
  refine VO.alloc 104 rfl tz9 (fun g3 => ?_)
  refine VO.alloc 106 rfl tz4 (fun g5 => ?_)
  refine VO.alloc 108 rfl tz4 (fun g7 => ?_)
  refine VO.k6 0 1 3 4 5 6 ?_
  refine VX.seq ?_
  refine VX.rs ?_
  refine VO.mv ?_
  refine VO.call 1 rfl fnOk55 rfl rfl (fun W hW => uNoneB_ok W (d0 := d0) (hW.at (i := 1) rfl) (Rd.mono h0_2 (hW.out (i := 1) (j := 0) rfl rfl))) (fun v9 m9 hv9 => ?_)
  obtain ⟨rfl, rfl⟩ := hv9
  refine VO.k7 0 1 3 4 5 6 11 ?_
  refine VX.cond rfl (fun hc10 => ?_) (fun hc10 => ?_)
  · -- T
    exact (e1 hc10).elim
  · -- F
    refine VX.skip ?_
    refine outN ?_
    refine VX.seq ?_
    refine VX.rs ?_
    refine VO.mv ?_
    refine VO.y rfl (.nilp rfl) ?_
    refine VO.y rfl (.fa rfl tst47 rfl) ?_
    refine VO.y rfl (.ld1 1 rfl tk45 rfl (cellsAt_one rfl rfl)) ?_
    refine VO.callN 111 rfl fnOk89 rfl (fun W_ hW_ => bw_ok W_ (mf := mout (wm W) (mone g0 (.cells [Value.pointer ((d0.1).map fun g => ⟨g, 0, none⟩), Value.bool d0.2.1, Value.slice A0_2 (d0.2.2.length) (c0_2)].toArray E0 (0, 0)))) (hW_.at (i := 0) rfl) h0_2) (fun v11 m11 hv11 => ?_)
    obtain ⟨ca11, rfl, hit11⟩ := hv11
    refine VO.kp [111, 1, 108, 106, 104, 102, 0] [(111, m11), (1, mone g0 (.cells [Value.pointer ((d0.1).map fun g => ⟨g, 0, none⟩), Value.bool d0.2.1, Value.slice A0_2 (d0.2.2.length) (c0_2)].toArray E0 (0, 0))), (108, mone g7 (.cells [Value.bool false].toArray 4 (0, 0))), (106, mone g5 (.cells [Value.bool false].toArray 4 (0, 0))), (104, mone g3 (.cells [str ([])].toArray 9 (0, 0))), (102, mone g1 (.cells [str (d1)].toArray 9 (0, 0))), (0, mout (wm W) (mone g0 (.cells [Value.pointer ((d0.1).map fun g => ⟨g, 0, none⟩), Value.bool d0.2.1, Value.slice A0_2 (d0.2.2.length) (c0_2)].toArray E0 (0, 0))))] ?_
    refine VO.k8 0 1 3 4 5 6 11 16 ?_
    refine VX.block ?_
    refine VX.gather (l := [mone g7 (.cells [Value.bool false].toArray 4 (0, 0)), mone g5 (.cells [Value.bool false].toArray 4 (0, 0)), mone g3 (.cells [str ([])].toArray 9 (0, 0))]) 113 [108, 106, 104] rfl (fun hg12 => ?_)
    refine VX.inv [(111, m11), (113, muns [mone g7 (.cells [Value.bool false].toArray 4 (0, 0)), mone g5 (.cells [Value.bool false].toArray 4 (0, 0)), mone g3 (.cells [str ([])].toArray 9 (0, 0))]), (1, mone g0 (.cells [Value.pointer ((d0.1).map fun g => ⟨g, 0, none⟩), Value.bool d0.2.1, Value.slice A0_2 (d0.2.2.length) (c0_2)].toArray E0 (0, 0))), (102, mone g1 (.cells [str (d1)].toArray 9 (0, 0))), (0, mout (wm W) (mone g0 (.cells [Value.pointer ((d0.1).map fun g => ⟨g, 0, none⟩), Value.bool d0.2.1, Value.slice A0_2 (d0.2.2.length) (c0_2)].toArray E0 (0, 0))))] (fun _ h => h.sub [111, 113, 1, 102, 0]) ?_
    refine VX.rangeR (A := Int) (G := (List UInt8) × Bool × Bool) (rest := [(1, mone g0 (.cells [Value.pointer ((d0.1).map fun g => ⟨g, 0, none⟩), Value.bool d0.2.1, Value.slice A0_2 (d0.2.2.length) (c0_2)].toArray E0 (0, 0))), (102, mone g1 (.cells [str (d1)].toArray 9 (0, 0))), (0, mout (wm W) (mone g0 (.cells [Value.pointer ((d0.1).map fun g => ⟨g, 0, none⟩), Value.bool d0.2.1, Value.slice A0_2 (d0.2.2.length) (c0_2)].toArray E0 (0, 0))))]) 113 111 114 115 116 117 (fun g => muns [mone g7 (.cells [Value.bool (g.2.2)].toArray 4 (0, 0)), mone g5 (.cells [Value.bool (g.2.1)].toArray 4 (0, 0)), mone g3 (.cells [str ((g.1))].toArray 9 (0, 0))]) (fun at_ g => (getAt d0.2.2 d1 at_) ∧ (Seps (muns [mone g7 (.cells [Value.bool (g.2.2)].toArray 4 (0, 0)), mone g5 (.cells [Value.bool (g.2.1)].toArray 4 (0, 0)), mone g3 (.cells [str ((g.1))].toArray 9 (0, 0))]) [mone g7 (.cells [Value.bool (g.2.2)].toArray 4 (0, 0)), mone g5 (.cells [Value.bool (g.2.1)].toArray 4 (0, 0)), mone g3 (.cells [str ((g.1))].toArray 9 (0, 0))])) (fun e g => e = .ret ∧ (getR d0.2.2 d1 = ((g.1), (g.2.1), (g.2.2))) ∧ (Seps (muns [mone g7 (.cells [Value.bool (g.2.2)].toArray 4 (0, 0)), mone g5 (.cells [Value.bool (g.2.1)].toArray 4 (0, 0)), mone g3 (.cells [str ((g.1))].toArray 9 (0, 0))]) [mone g7 (.cells [Value.bool (g.2.2)].toArray 4 (0, 0)), mone g5 (.cells [Value.bool (g.2.1)].toArray 4 (0, 0)), mone g3 (.cells [str ((g.1))].toArray 9 (0, 0))])) ([], false, false) ⟨by exact getAt_0 _ _, hg12⟩ (fun _ _ => hit11) (.inr ⟨0, (.tail _ (.tail _ (.head _)))⟩) rfl rfl rfl (fun _ _ _ h => by obtain ⟨_, _, _, _, _, _, rfl, _⟩ := h; rfl) (Bx := Nat) (fun args B => [(8, Value.pointer (some ⟨B, 0, none⟩)), (0, Value.pointer (some ⟨g0, 0, none⟩)), (1, str (d1)), (3, Value.pointer (some ⟨g1, 0, none⟩)), (4, Value.pointer (some ⟨g3, 0, none⟩)), (5, Value.pointer (some ⟨g5, 0, none⟩)), (6, Value.pointer (some ⟨g7, 0, none⟩)), (11, Value.bool (decide (d0.1 = none)))]) (fun args B => [(118, mone B (.cells (aggC (args.getD 1 undef)) 92 (0, 0)))]) ?_ ?_ ?_ ?_
    · intro w1_ lr_ at_ args_ mr_ Ω_ hE_
      obtain ⟨hE0_, hE1_, rfl, x_, cs_, hxa_, rfl, hrx_⟩ := hE_
      have hrx0_ := hrx_
      obtain ⟨xA_, xc_, rfl, hxf_, hxu_, hro_⟩ := open_Run (x0 := x_.1) (x1 := x_.2.1) (x2 := x_.2.2) hrx_
      simp only [inK] at hxf_ hxu_
      have hxr_ := Rd.room hro_
      have hxc_ := runCheck_ok (okU_all e0 x_ (List.mem_of_getElem? hxa_))
      have hup_ := hxc_.2.2.2.2
      refine VX.reg ?_
      refine VO.alloc 118 rfl tz92 (fun gB_ => ?_)
      refine VO.store (k := 3) (c' := [Value.int .i64 (x_.1), Value.int .i64 (x_.2.1), Value.slice xA_ (x_.2.2.length) (xc_)]) 118 rfl rfl (.inl tk92) rfl rfl rfl rfl rfl ?_
      refine VO.nil ?_
      exact ⟨rfl, rfl, gB_, ⟨rfl, rfl, rfl, rfl, rfl, rfl, rfl, rfl, trivial⟩, fun W_ hW_ => Inv.rot hW_⟩
    · -- FB
      rintro w1_ lr_ Dr_ at_ ⟨val, met, th⟩ args_ mr_ ml_ mo_ gB_ ⟨hg, hSep_⟩ hE_
      replace hg : getAt d0.2.2 d1 at_ := hg
      replace hSep_ : Seps (muns [mone g7 (.cells [Value.bool th].toArray 4 (0, 0)), mone g5 (.cells [Value.bool met].toArray 4 (0, 0)), mone g3 (.cells [str (val)].toArray 9 (0, 0))]) [mone g7 (.cells [Value.bool th].toArray 4 (0, 0)), mone g5 (.cells [Value.bool met].toArray 4 (0, 0)), mone g3 (.cells [str (val)].toArray 9 (0, 0))] := hSep_
      obtain ⟨hE0_, hE1_, rfl, x_, cs_, hxa_, rfl, hrx_⟩ := hE_
      have hrx0_ := hrx_
      obtain ⟨xA_, xc_, rfl, hxf_, hxu_, hro_⟩ := open_Run (x0 := x_.1) (x1 := x_.2.1) (x2 := x_.2.2) hrx_
      simp only [inK] at hxf_ hxu_
      have hxr_ := Rd.room hro_
      have hxc_ := runCheck_ok (okU_all e0 x_ (List.mem_of_getElem? hxa_))
      have hup_ := hxc_.2.2.2.2
      refine VX.parts 113 [108, 106, 104] rfl hSep_ ?_
      show VX _ _ _ _ _ _ _ [(8, Value.pointer (some ⟨gB_, 0, none⟩)), (0, Value.pointer (some ⟨g0, 0, none⟩)), (1, str (d1)), (3, Value.pointer (some ⟨g1, 0, none⟩)), (4, Value.pointer (some ⟨g3, 0, none⟩)), (5, Value.pointer (some ⟨g5, 0, none⟩)), (6, Value.pointer (some ⟨g7, 0, none⟩)), (11, Value.bool (decide (d0.1 = none)))] [(108, mone g7 (.cells [Value.bool th].toArray 4 (0, 0))), (106, mone g5 (.cells [Value.bool met].toArray 4 (0, 0))), (104, mone g3 (.cells [str (val)].toArray 9 (0, 0))), (116, mnil), (117, mo_), (115, ml_), (114, mone Dr_ (.deferred (some []))), (1, mone g0 (.cells [Value.pointer ((d0.1).map fun g => ⟨g, 0, none⟩), Value.bool d0.2.1, Value.slice A0_2 (d0.2.2.length) (c0_2)].toArray E0 (0, 0))), (102, mone g1 (.cells [str (d1)].toArray 9 (0, 0))), (0, mout (wm W) (mone g0 (.cells [Value.pointer ((d0.1).map fun g => ⟨g, 0, none⟩), Value.bool d0.2.1, Value.slice A0_2 (d0.2.2.length) (c0_2)].toArray E0 (0, 0)))), (118, mone gB_ (.cells [Value.int .i64 (x_.1), Value.int .i64 (x_.2.1), Value.slice xA_ (x_.2.2.length) (xc_)].toArray 92 (0, 0)))]
      refine VX.block ?_
      refine VX.rs ?_
      refine VO.y rfl (.fa rfl tst92 rfl) ?_
      refine VO.y rfl (.ld1 118 rfl tk34 rfl (cellsAt_one rfl rfl)) ?_
      refine VO.y rfl (.lenS rfl tsl34) ?_
      refine VO.y rfl (.mkf rfl) ?_
      refine VO.callN 119 rfl fnOk90 rfl (fun W_ hW_ => search_ok (p1 := geK x_.2.2 d1) W_ x_.2.2.length bd fnOk91 (fun W2_ hW2_ i_ hi_ => get1_ok W2_ i_ (by omega) (d1 := x_) (Rd.mono hrx_ ((hW_.at (i := 0) rfl).trans hW2_)) ((hW_.at (i := 118) rfl).trans hW2_) (d2 := d1) (v2 := [str d1]) ⟨rfl, h1⟩ ((hW_.at (i := 102) rfl).trans hW2_) hi_) (by omega)) (fun v19 m19 hv19 => ?_)
      obtain ⟨kq19, rfl, hq1_19, hq2_19, hq3_19⟩ := hv19
      refine VO.as ?_
      refine VO.k9 0 1 3 4 5 6 8 9 11 ?_
      refine VX.seq ?_
      refine VX.regD _ 13 [(0, true), (1, true), (2, true), (3, true), (4, true), (5, true), (6, true), (7, true), (8, true), (9, true), (10, true), (11, true), (12, true)] follows (by kernel_rfl) (fun _ h => h.sub [119, 108, 106, 104, 116, 117, 115, 114, 1, 102, 0, 118]) ?_
      refine VD.y rfl rfl (.inl rfl) (.mv rfl) ?_
      refine VD.y rfl rfl (.inl rfl) (.fa rfl tst92 rfl) ?_
      refine VD.y rfl rfl (.inl rfl) (.ld1 118 rfl tk34 rfl (cellsAt_one rfl rfl)) ?_
      refine VD.y rfl rfl (.inl rfl) (.lenS rfl tsl34) ?_
      refine VD.y rfl rfl (.inl rfl) (.lss rfl rfl) ?_
      refine VD.y rfl rfl (.inl rfl) (.mv rfl) ?_
      refine VD.dec (s := 29) rfl (fun hc20 => ?_) (fun hc20 => ?_)
      · -- FBT
        refine VD.y rfl rfl (.inr ⟨_, _, rfl, _, rfl, rfl⟩) (.fa rfl tst92 rfl) ?_
        refine VD.y rfl rfl (.inr ⟨_, _, rfl, _, rfl, rfl⟩) (.ld1 118 rfl tk34 rfl (cellsAt_one rfl rfl)) ?_
        refine VD.y rfl rfl (.inr ⟨_, _, rfl, _, rfl, rfl⟩) (.mv rfl) ?_
        obtain ⟨x21, hx21⟩ : ∃ z_, (x_.2.2)[kq19]? = some z_ := ⟨_, List.getElem?_eq_getElem bd⟩
        obtain ⟨gg21, oo21, ec21, ea21, hce21, hre21⟩ := hro_.elem hx21
        cases ea21
        obtain ⟨rfl, q21_1, q21_2⟩ := open_Op (x0 := x21.1) (x1 := x21.2.1) (x2 := x21.2.2) hre21
        simp only [maxLen] at q21_1
        simp only [maxLen] at q21_2
        refine VD.y rfl rfl (.inr ⟨_, _, rfl, _, rfl, rfl⟩) (.ixI kq19 rfl rfl tsl34 rfl bd) ?_
        refine VD.y rfl rfl (.inr ⟨_, _, rfl, _, rfl, rfl⟩) (.fa rfl tst64 rfl) ?_
        refine VD.y rfl rfl (.inr ⟨_, _, rfl, _, rfl, rfl⟩) (.ld1 0 rfl tk9 rfl (hce21.at1 (j := 1) rfl)) ?_
        refine VD.y rfl rfl (.inr ⟨_, _, rfl, _, rfl, rfl⟩) (.ld1 102 rfl tk9 rfl (cellsAt_one rfl rfl)) ?_
        refine VD.nil rfl ?_ rfl
        refine VO.gy rfl ⟨_, rfl, rfl⟩ (.seql rfl rfl) ?_
        refine VO.y rfl (.pT rfl rfl) ?_
        refine VO.k10 0 1 3 4 5 6 8 9 11 38 ?_
        refine outN ?_
        refine VX.cond rfl (fun hc22 => ?_) (fun hc22 => ?_)
        · -- FBTT
          refine VX.seq ?_
          refine VX.inv _ (fun _ h => Inv.num h 106 2106 rfl) ?_
          refine VX.inv _ (fun _ h => Inv.num h 104 2104 rfl) ?_
          refine VX.regD _ 14 [(0, true), (1, true), (2, true), (3, true), (4, true), (5, true), (6, true), (7, true), (8, true), (9, true), (10, true), (11, true), (12, false), (13, false)] follows (by kernel_rfl) (fun _ h => h.sub [119, 108, 2106, 2104, 116, 117, 115, 114, 1, 102, 0, 118]) ?_
          refine VD.y rfl rfl (.inl rfl) (.fa rfl tst92 rfl) ?_
          refine VD.y rfl rfl (.inl rfl) (.ld1 118 rfl tk34 rfl (cellsAt_one rfl rfl)) ?_
          refine VD.y rfl rfl (.inl rfl) (.mv rfl) ?_
          refine VD.y rfl rfl (.inl rfl) (.ixI kq19 rfl rfl tsl34 rfl bd) ?_
          refine VD.y rfl rfl (.inl rfl) (.fa rfl tst64 rfl) ?_
          refine VD.y rfl rfl (.inl rfl) (.ld1 0 rfl tk9 rfl (hce21.at1 (j := 2) rfl)) ?_
          refine VD.y rfl rfl (.inl rfl) (.fa rfl tst92 rfl) ?_
          refine VD.y rfl rfl (.inl rfl) (.ld1 118 rfl tk34 rfl (cellsAt_one rfl rfl)) ?_
          refine VD.y rfl rfl (.inl rfl) (.mv rfl) ?_
          refine VD.y rfl rfl (.inl rfl) (.ixI kq19 rfl rfl tsl34 rfl bd) ?_
          refine VD.y rfl rfl (.inl rfl) (.fa rfl tst64 rfl) ?_
          refine VD.y rfl rfl (.inl rfl) (.ld1 0 rfl tk4 rfl (hce21.at1 (j := 0) rfl)) ?_
          refine VD.storeH (k := 1) (c' := [str (x21.2.2)]) 2104 rfl rfl rfl (.inr ⟨tk9, rfl⟩) rfl rfl rfl rfl rfl (fun _ h => h.sub [119, 108, 116, 117, 115, 114, 1, 102, 0, 118]) ?_
          refine VD.storeH (k := 1) (c' := [Value.bool true]) 2106 rfl rfl rfl (.inr ⟨tk4, rfl⟩) rfl rfl rfl rfl rfl (fun _ h => h.sub [119, 108, 116, 117, 115, 114, 1, 102, 0, 118]) ?_
          refine VD.nil rfl ?_ rfl
          refine VO.store (k := 1) (c' := [Value.bool x21.1]) 108 rfl rfl (.inr ⟨tk4, rfl⟩) rfl rfl rfl rfl rfl ?_
          refine VO.kp [108, 2106, 2104, 117, 115, 114, 1, 102, 0, 118] [(108, mone g7 (.cells [Value.bool x21.1].toArray 4 (0, 0))), (2106, mone g5 (.cells [Value.bool true].toArray 4 (0, 0))), (2104, mone g3 (.cells [str (x21.2.2)].toArray 9 (0, 0))), (117, mo_), (115, ml_), (114, mone Dr_ (.deferred (some []))), (1, mone g0 (.cells [Value.pointer ((d0.1).map fun g => ⟨g, 0, none⟩), Value.bool d0.2.1, Value.slice A0_2 (d0.2.2.length) (c0_2)].toArray E0 (0, 0))), (102, mone g1 (.cells [str (d1)].toArray 9 (0, 0))), (0, mout (wm W) (mone g0 (.cells [Value.pointer ((d0.1).map fun g => ⟨g, 0, none⟩), Value.bool d0.2.1, Value.slice A0_2 (d0.2.2.length) (c0_2)].toArray E0 (0, 0)))), (118, mone gB_ (.cells [Value.int .i64 (x_.1), Value.int .i64 (x_.2.1), Value.slice (some ⟨gg21, oo21, none⟩) (x_.2.2.length) (xc_)].toArray 92 (0, 0)))] ?_
          refine VO.k10 0 1 3 4 5 6 8 9 11 38 ?_
          refine outN ?_
          refine VX.ret ?_
          refine outBR ?_
          exact ⟨rfl, fun W_ hW_ => ⟨⟨x21.2.2, true, x21.1⟩, (hW_.gather (ids := [108, 2106, 2104]) 113 rfl).1.sub [117, 115, 113, 114, 1, 102, 0], .inr ⟨rfl, rfl, by exact getAt_hit hg hE0_ hxa_ (find_at hup_ ‹x_.2.2[kq19]? = some _› (by assumption)), (hW_.gather (ids := [108, 2106, 2104]) 113 rfl).2⟩⟩⟩
        · -- FBTF
          refine VX.skip ?_
          refine outBN ?_
          exact ⟨rfl, fun W_ hW_ => ⟨⟨val, met, th⟩, (hW_.gather (ids := [108, 106, 104]) 113 rfl).1.sub [117, 115, 113, 114, 1, 102, 0], .inl ⟨rfl, by exact getAt_next hg hE0_ hxa_ (find_not hup_ hq1_19 hq2_19 hq3_19 (by intro y_ hy_; first | (exfalso; have h_ := (List.getElem?_eq_some_iff.1 hy_).1; omega) | (rw [hx21] at hy_; cases hy_; assumption))), (hW_.gather (ids := [108, 106, 104]) 113 rfl).2⟩⟩⟩
      · -- FBF
        refine VD.gn rfl rfl (.inl ⟨_, rfl, rfl⟩) ?_
        refine VD.gn rfl rfl (.inl ⟨_, rfl, rfl⟩) ?_
        refine VD.gn rfl rfl (.inl ⟨_, rfl, rfl⟩) ?_
        refine VD.gn rfl rfl (.inl ⟨_, rfl, rfl⟩) ?_
        refine VD.gn rfl rfl (.inl ⟨_, rfl, rfl⟩) ?_
        refine VD.gn rfl rfl (.inl ⟨_, rfl, rfl⟩) ?_
        refine VD.gn rfl rfl (.inl ⟨_, rfl, rfl⟩) ?_
        refine VD.nil rfl ?_ rfl
        refine VO.gN ?_
        refine VO.y rfl (.pF rfl rfl) ?_
        refine VO.k10 0 1 3 4 5 6 8 9 11 38 ?_
        refine outN ?_
        refine VX.condF rfl ?_
        refine VX.skip ?_
        refine outBN ?_
        exact ⟨rfl, fun W_ hW_ => ⟨⟨val, met, th⟩, (hW_.gather (ids := [108, 106, 104]) 113 rfl).1.sub [117, 115, 113, 114, 1, 102, 0], .inl ⟨rfl, by exact getAt_next hg hE0_ hxa_ (find_not hup_ hq1_19 hq2_19 hq3_19 (by intro y_ hy_; first | (exfalso; have h_ := (List.getElem?_eq_some_iff.1 hy_).1; omega) | (rw [hx21] at hy_; cases hy_; assumption))), (hW_.gather (ids := [108, 106, 104]) 113 rfl).2⟩⟩⟩
    · -- FD
      rintro Dr_ at_ ⟨val, met, th⟩ ⟨hg, hSep_⟩ hDn_
      replace hg : getAt d0.2.2 d1 at_ := hg
      replace hSep_ : Seps (muns [mone g7 (.cells [Value.bool th].toArray 4 (0, 0)), mone g5 (.cells [Value.bool met].toArray 4 (0, 0)), mone g3 (.cells [str (val)].toArray 9 (0, 0))]) [mone g7 (.cells [Value.bool th].toArray 4 (0, 0)), mone g5 (.cells [Value.bool met].toArray 4 (0, 0)), mone g3 (.cells [str (val)].toArray 9 (0, 0))] := hSep_
      refine outBN ?_
      refine outN ?_
      refine VX.parts 113 [108, 106, 104] rfl hSep_ ?_
      show VX _ _ _ _ _ _ _ [(0, Value.pointer (some ⟨g0, 0, none⟩)), (1, str (d1)), (3, Value.pointer (some ⟨g1, 0, none⟩)), (4, Value.pointer (some ⟨g3, 0, none⟩)), (5, Value.pointer (some ⟨g5, 0, none⟩)), (6, Value.pointer (some ⟨g7, 0, none⟩)), (11, Value.bool (decide (d0.1 = none))), (16, Value.func (.func 129) #[] ca11.toArray)] [(108, mone g7 (.cells [Value.bool th].toArray 4 (0, 0))), (106, mone g5 (.cells [Value.bool met].toArray 4 (0, 0))), (104, mone g3 (.cells [str (val)].toArray 9 (0, 0))), (114, mone Dr_ (.deferred (some []))), (1, mone g0 (.cells [Value.pointer ((d0.1).map fun g => ⟨g, 0, none⟩), Value.bool d0.2.1, Value.slice A0_2 (d0.2.2.length) (c0_2)].toArray E0 (0, 0))), (102, mone g1 (.cells [str (d1)].toArray 9 (0, 0))), (0, mout (wm W) (mone g0 (.cells [Value.pointer ((d0.1).map fun g => ⟨g, 0, none⟩), Value.bool d0.2.1, Value.slice A0_2 (d0.2.2.length) (c0_2)].toArray E0 (0, 0))))]
      refine VX.rs ?_
      refine VO.store (k := 1) (c' := [str ([])]) 104 rfl rfl (.inr ⟨tk9, rfl⟩) rfl rfl rfl rfl rfl ?_
      refine VO.store (k := 1) (c' := [Value.bool false]) 106 rfl rfl (.inr ⟨tk4, rfl⟩) rfl rfl rfl rfl rfl ?_
      refine VO.store (k := 1) (c' := [Value.bool false]) 108 rfl rfl (.inr ⟨tk4, rfl⟩) rfl rfl rfl rfl rfl ?_
      refine VO.k8 0 1 3 4 5 6 11 16 ?_
      refine VX.ret ?_
      refine ⟨114, rfl, ?_⟩
      refine ⟨_, _, res_run (rs := [.cell 4 9, .cell 5 4, .cell 6 4]) rfl (.one 104 rfl tk9 rfl ⟨_, _, _, mone_self _ _, rfl⟩ (.one 106 rfl tk4 rfl ⟨_, _, _, mone_self _ _, rfl⟩ (.one 108 rfl tk4 rfl ⟨_, _, _, mone_self _ _, rfl⟩ .nil))), fun W_ hI => out_of (l := [mone g0 (.cells [Value.pointer ((d0.1).map fun g => ⟨g, 0, none⟩), Value.bool d0.2.1, Value.slice A0_2 (d0.2.2.length) (c0_2)].toArray E0 (0, 0))]) hI [1] rfl rfl (mle_refl _) (fun hS_ => ?_)⟩
      dsimp only [packV]
      refine ⟨?_, ?_⟩
      rotate_left
      · rw [muns_one]
      all_goals (first | rfl | (first | (rw [hs] <;> first | done | rfl) | (rw [getAt_end hg hDn_] <;> first | done | rfl)))
    · -- FX
      rintro Dr_ _ ⟨val, met, th⟩ ⟨rfl, hs, hSep_⟩ _
      replace hs : getR d0.2.2 d1 = (val, met, th) := hs
      replace hSep_ : Seps (muns [mone g7 (.cells [Value.bool th].toArray 4 (0, 0)), mone g5 (.cells [Value.bool met].toArray 4 (0, 0)), mone g3 (.cells [str (val)].toArray 9 (0, 0))]) [mone g7 (.cells [Value.bool th].toArray 4 (0, 0)), mone g5 (.cells [Value.bool met].toArray 4 (0, 0)), mone g3 (.cells [str (val)].toArray 9 (0, 0))] := hSep_
      refine outBR ?_
      refine outR ?_
      refine ⟨114, rfl, ?_⟩
      refine ⟨_, _, res_run (rs := [.cell 4 9, .cell 5 4, .cell 6 4]) rfl (.one 113 rfl tk9 rfl ⟨_, _, _, hSep_.1 _ (.tail _ (.tail _ (.head _))) _ _ (mone_self _ _), rfl⟩ (.one 113 rfl tk4 rfl ⟨_, _, _, hSep_.1 _ (.tail _ (.head _)) _ _ (mone_self _ _), rfl⟩ (.one 113 rfl tk4 rfl ⟨_, _, _, hSep_.1 _ (.head _) _ _ (mone_self _ _), rfl⟩ .nil))), fun W_ hI => out_of (l := [mone g0 (.cells [Value.pointer ((d0.1).map fun g => ⟨g, 0, none⟩), Value.bool d0.2.1, Value.slice A0_2 (d0.2.2.length) (c0_2)].toArray E0 (0, 0))]) hI [1] rfl rfl (mle_refl _) (fun hS_ => ?_)⟩
      dsimp only [packV]
      refine ⟨?_, ?_⟩
      rotate_left
      · rw [muns_one]
      all_goals (first | rfl | (first | (rw [hs] <;> first | done | rfl) | (rw [getAt_end hg hDn_] <;> first | done | rfl)))
abbrev TtableTable : Ty := .tmap
abbrev DtableTable := MapD
theorem openO_tableTable {m : Mem} {cs : List Value} {x0 : MapD} (h : Ow TtableTable m cs x0) : ∃ (r0 : Nat), ∃ (n0 : Mem), cs = [(.map (some r0) : Value)] ∧ Seps m [n0] ∧ Ow .tmap n0 [.map (some r0)] x0 := by
  have z1 := h
  obtain ⟨r1, rfl⟩ := Ow.map1 h
  exact ⟨r1, _, rfl, Seps.one (mle_refl _), z1⟩
theorem mkO_tableTable {m : Mem} {n0 : Mem} (x0 : MapD) (hS : Seps m [n0]) {v0 : Value} (h0 : Ow .tmap n0 [v0] x0) : Ow TtableTable m [v0] x0 := by
  exact (h0.up (hS.1 _ (.head _)))
theorem openP_tableTable {m : Mem} {cs : List Value} {g : Nat} {x0 : MapD} (h : Ow (.ptr TtableTable) m cs (g, x0)) : ∃ (E : TypeId), ∃ (r0 : Nat), ∃ (n0 : Mem), cs = [.pointer (some ⟨g, 0, none⟩)] ∧ Seps m [mone g (.cells [(.map (some r0) : Value)].toArray E (0, 0)), n0] ∧ Ow .tmap n0 [.map (some r0)] x0 := by
  obtain ⟨rfl, rc, E, m1, hd, l0, l1, h1⟩ := Ow.opnP h
  obtain ⟨r0, n0, rfl, hS, f0⟩ := openO_tableTable h1
  exact ⟨E, r0, n0, rfl, Seps.app hd l0 l1 (Seps.one (mle_refl _)) hS, f0⟩
theorem mkP_tableTable {m : Mem} {g : Nat} {E : TypeId} {n0 : Mem}{v0 : Value} (x0 : MapD) (hS : Seps m [mone g (.cells [v0].toArray E (0, 0)), n0]) (h0 : Ow .tmap n0 [v0] x0) : Ow (.ptr TtableTable) m [.pointer (some ⟨g, 0, none⟩)] (g, x0) :=
  Ow.clsP hS fun hS => mkO_tableTable x0 hS h0
theorem tRd_there {t : Bytes} {m : Int} (h : (t.length : Int) ≤ m) (hm : m ≤ 1000) (s : Bytes) : tRd (venc t.length ++ (t ++ s)) m = (t, ((venc t.length ++ t).length : Int), true) := by
  obtain ⟨a1, a2, a3⟩ := s_there (x := t.length) (m := m) h (by omega) (t ++ s)
  unfold tRd
  rw [a1, a2, a3, if_pos ⟨rfl, by simp only [List.length_append]; omega⟩, List.drop_left, List.take_left]
  simp only [List.length_append, Int.natCast_add]
theorem opRd_there {o : DOp} (h : opOk o) (s : Bytes) : opRd (opEnc o ++ s) = (o, ((opEnc o).length : Int), 0) := by
  obtain ⟨p, k, v⟩ := o
  have hc := opCheck_good h
  obtain ⟨h1, h2, h3, h4⟩ := h
  dsimp only at h1 h2 h3 h4
  cases p with
  | true =>
    have e : opEnc (true, k, v) ++ s = 1 :: (venc k.length ++ (k ++ (venc v.length ++ (v ++ s)))) := by simp [opEnc]
    have t1 := tRd_there (t := k) (m := 16) (by omega) (by decide) (venc v.length ++ (v ++ s))
    have hd : (1 :: (venc k.length ++ (k ++ (venc v.length ++ (v ++ s)))) : Bytes).drop (1 + ((venc k.length ++ k).length : Int)).toNat = venc v.length ++ (v ++ s) := by
      rw [show (1 + ((venc k.length ++ k).length : Int)).toNat = (venc k.length ++ k).length + 1 by omega, List.drop_succ_cons, ← List.append_assoc, List.drop_left]
    have t2 := tRd_there (t := v) (m := 32) (by omega) (by decide) s
    have d1 : (1 :: (venc k.length ++ (k ++ (venc v.length ++ (v ++ s)))) : Bytes).drop 1 = venc k.length ++ (k ++ (venc v.length ++ (v ++ s))) := rfl
    rw [e, opRd_put (x := 1) (by simp; omega) rfl (by decide) (by rw [d1, t1]) (by decide) (by rw [d1, t1, hd, t2])]
    rw [d1, t1, hd, t2, show decide (((1 : UInt8).toNat : Int) = 1) = true from rfl, opEnd_good (not_not_intro hc)]
    simp only [opEnc, if_true, List.length_cons, List.length_append, Prod.mk.injEq, true_and, and_true]
    omega
  | false =>
    have hv : v = [] := by rcases h4 with h4 | h4; exact absurd h4 (by decide); exact h4
    subst hv
    have e : opEnc (false, k, []) ++ s = 0 :: (venc k.length ++ (k ++ s)) := by simp [opEnc]
    have t1 := tRd_there (t := k) (m := 16) (by omega) (by decide) s
    have d1 : (0 :: (venc k.length ++ (k ++ s)) : Bytes).drop 1 = venc k.length ++ (k ++ s) := rfl
    rw [e, opRd_del (x := 0) (by simp; omega) rfl (by decide) (by rw [d1, t1]) (by decide)]
    rw [d1, t1, show decide (((0 : UInt8).toNat : Int) = 1) = false from rfl, opEnd_good (not_not_intro hc)]
    simp only [opEnc, Bool.false_eq_true, if_false, List.length_cons, List.length_append, List.length_nil, Prod.mk.injEq, true_and, and_true]
    omega
theorem rdOps_there : ∀ {l : List DOp} (s : Bytes), (∀ o ∈ l, opCheck o = 0) → rdOps l.length ((l.map opEnc).flatten ++ s) = some (l, s)
  | [], s, _ => rfl
  | o :: l, s, h => by
    have e : (((o :: l).map opEnc).flatten ++ s) = opEnc o ++ ((l.map opEnc).flatten ++ s) := by simp
    have h1 := opRd_there (opOk_of (h o (.head _))) ((l.map opEnc).flatten ++ s)
    rw [e, List.length_cons, rdOps, h1, if_pos rfl]
    dsimp only
    rw [Int.toNat_natCast, List.drop_left, rdOps_there s fun x hx => h x (.tail _ hx)]; rfl
theorem runDec_there {r : DRun} (h : runCheck r = 0) : runDecode (runBody r) = (r, 0) := by
  obtain ⟨x, y, l⟩ := r
  have hk := runCheck_ok h
  obtain ⟨h1, h2, h3, h4, h5⟩ := hk
  dsimp only at h1 h2 h3 h4 h5
  obtain ⟨a1, a2, a3⟩ := s_there (x := x.toNat) (m := bMx) (show ((x.toNat : Nat) : Int) ≤ 1048576 by omega) (by decide) (venc y.toNat ++ (venc l.length ++ (l.map opEnc).flatten))
  obtain ⟨b1, b2, b3⟩ := s_there (x := y.toNat) (m := bMx) (show ((y.toNat : Nat) : Int) ≤ 1048576 by omega) (by decide) (venc l.length ++ (l.map opEnc).flatten)
  obtain ⟨c1, c2, c3⟩ := s_there (x := l.length) (m := 1024) (by omega) (by decide) ((l.map opEnc).flatten)
  have e1 : dB1 (runBody (x, y, l)) = venc y.toNat ++ (venc l.length ++ (l.map opEnc).flatten) := by
    show (runBody (x, y, l)).drop _ = _
    unfold runBody; dsimp only; rw [a2, List.drop_left]
  have e2 : dB2 (runBody (x, y, l)) = venc l.length ++ (l.map opEnc).flatten := by
    show (dB1 (runBody (x, y, l))).drop _ = _
    rw [e1, b2, List.drop_left]
  have z1 : sE (runBody (x, y, l)) bMx = 0 := a3
  have z2 : sX (runBody (x, y, l)) bMx = x.toNat := a1
  rw [runDec_go (not_not_intro z1) (by rw [e1]; exact not_not_intro b3) (by rw [e2]; exact not_not_intro c3), z2, e1, e2, b1]
  unfold runDec3
  rw [c1, c2, List.drop_left, show (l.map opEnc).flatten = (l.map opEnc).flatten ++ [] by simp, rdOps_there [] h5.1]
  dsimp only
  rw [show ((x.toNat : Nat) : Int) = x by omega, show ((y.toNat : Nat) : Int) = y by omega]
  exact if_pos h
section
variable {l m all : List DRun} {r x : DRun} {B s : Bytes} {n : Nat}
theorem rFrames_cons : rFrames (r :: l) = rFrame r ++ rFrames l := rfl
theorem rFrames_app : rFrames (l ++ m) = rFrames l ++ rFrames m := by simp [rFrames]
theorem rFrames_one : rFrames [r] = rFrame r := by simp [rFrames]
theorem rFrame_there (h : runCheck r = 0) (s : Bytes) : fRead (rFrame r ++ s) = (runBody r, ((rFrame r).length : Int), 0) := fRead_there (by have := runBody_len h; omega) s
theorem chain_drop : ∀ {n : Nat} {l : List DRun} {e : Int}, chainU e l → ∀ {x}, l[n]? = some x → x.1 = (match (l.take n).getLast? with | some y => y.2.1 | none => e) + 1
  | 0, y :: l, e, h, x, hx => by cases hx; exact h.2.1
  | n + 1, y :: l, e, h, x, hx => by
    have h1 := chain_drop (n := n) h.2.2 (by simpa using hx)
    have h2 : (match ((y :: l).take (n + 1)).getLast? with | some x => x.2.1 | none => e) = (match (l.take n).getLast? with | some z => z.2.1 | none => y.2.1) := by
      rw [List.take_succ_cons]
      cases l.take n with
      | nil => rfl
      | cons z t => rw [List.getLast?_cons_cons]; cases h : (z :: t).getLast? <;> simp_all
    rw [h2]; exact h1
  | _, [], _, _, _, hx => by simp at hx
theorem next_from (h : okU all) (hx : all[n]? = some x) : x.1 = endR (all.take n) + 1 := chain_drop h hx
theorem rstep_ok (h : okU all) (hx : all[n]? = some x) (hB : B.drop (rFrames (all.take n)).length = rFrame x ++ s) : runOkAt (endR (all.take n)) (B.drop (rFrames (all.take n)).length) ∧ (runDecode (fRead (B.drop (rFrames (all.take n)).length)).1).1 = x ∧ (fRead (B.drop (rFrames (all.take n)).length)).2.1 = ((rFrame x).length : Int) := by
  have hc := okU_all h x (List.mem_of_getElem? hx)
  have h1 := rFrame_there hc s
  have h2 := runDec_there hc
  rw [hB, h1]; dsimp only
  refine ⟨⟨by rw [h1], by rw [h1]; dsimp only; rw [h2], by rw [h1]; dsimp only; rw [h2]; exact next_from h hx⟩, by rw [h2], rfl⟩
/-- the frame ahead is not all there: nothing more is read -/
theorem rstep_no (h : okU all) (hn : n ≤ all.length) (hp : rFrames (all.take n) <+: B) (hB : B <+: rFrames all) (hx : ∀ x, all[n]? = some x → ¬ rFrames (all.take n) ++ rFrame x <+: B) {e : Int} : ¬ runOkAt e (B.drop (rFrames (all.take n)).length) := by
  rintro ⟨q1, _, _⟩
  obtain ⟨t, ht⟩ := hp
  obtain ⟨u, hu⟩ := hB
  have hd : B.drop (rFrames (all.take n)).length = t := by rw [← ht, List.drop_left]
  rw [hd] at q1
  obtain ⟨b1, b2, b3⟩ := fRead_back q1
  have e2 : t ++ u = rFrames (all.drop n) := by
    have : rFrames (all.take n) ++ (t ++ u) = rFrames (all.take n) ++ rFrames (all.drop n) := by rw [← List.append_assoc, ht, hu, ← rFrames_app, List.take_append_drop]
    exact List.append_cancel_left this
  cases hg : all[n]? with
  | none =>
    have : all.length ≤ n := List.getElem?_eq_none_iff.1 hg
    rw [List.drop_of_length_le this] at e2
    have e3 : t = [] := (List.append_eq_nil_iff.1 e2).1
    have := fRead_bounds t
    have h5 := this.2.2.2.2.1 q1
    rw [e3] at this h5; simp at this; omega
  | some x =>
    have hc := okU_all h x (List.mem_of_getElem? hg)
    rw [drop_cons hg, rFrames_cons] at e2
    have f1 := rFrame_there hc (rFrames (all.drop (n + 1)))
    rw [← e2, b1, List.append_assoc, fRead_there b3] at f1
    have e4 : (fRead t).1 = runBody x := congrArg Prod.fst f1
    refine hx x hg ⟨t.drop (fRead t).2.1.toNat, ?_⟩
    rw [List.append_assoc, ← ht]; congr 1
    conv => rhs; rw [b1, e4]
    rfl
theorem runGo_front (h : okU all) (hB : B <+: rFrames all) : ∀ (k n : Nat), n ≤ all.length → rFrames (all.take n) <+: B → B.length ≤ (rFrames (all.take n)).length + k →
    ∃ m, n ≤ m ∧ m ≤ all.length ∧ (runGo k B (all.take n) ((rFrames (all.take n)).length : Int)) = (all.take m, ((rFrames (all.take m)).length : Int)) ∧ rFrames (all.take m) <+: B ∧ ∀ x, all[m]? = some x → ¬ rFrames (all.take m) ++ rFrame x <+: B
  | 0, n, hn, hp, hk => ⟨n, Nat.le_refl _, hn, rfl, hp, fun x hx hq => by
    have h1 := hq.length_le
    have h2 := (rFrame_len (okU_all h x (List.mem_of_getElem? hx))).2
    rw [List.length_append] at h1; omega⟩
  | k + 1, n, hn, hp, hk => by
    by_cases hq : ∃ x, all[n]? = some x ∧ rFrames (all.take n) ++ rFrame x <+: B
    · obtain ⟨x, hx, s, hs⟩ := hq
      have hd : B.drop (rFrames (all.take n)).length = rFrame x ++ s := by rw [← hs, List.append_assoc, List.drop_left]
      obtain ⟨o1, o2, o3⟩ := rstep_ok h hx hd
      have hl := (List.getElem?_eq_some_iff.1 hx).1
      have e1 : all.take (n + 1) = all.take n ++ [x] := take_one hx
      have e2 : rFrames (all.take (n + 1)) = rFrames (all.take n) ++ rFrame x := by rw [e1, rFrames_app, rFrames_one]
      have h3 := (rFrame_len (okU_all h x (List.mem_of_getElem? hx))).2
      obtain ⟨m, m1, m2, m3, m4, m5⟩ := runGo_front h hB k (n + 1) (by omega) (by rw [e2]; exact ⟨s, hs⟩) (by rw [e2, List.length_append]; omega)
      refine ⟨m, by omega, m2, ?_, m4, m5⟩
      rw [runGo, Int.toNat_natCast, if_pos o1, o2, o3, ← e1]
      rw [e2, List.length_append, Int.natCast_add] at m3
      exact m3
    · have hx : ∀ x, all[n]? = some x → ¬ rFrames (all.take n) ++ rFrame x <+: B := fun x hx hp => hq ⟨x, hx, hp⟩
      refine ⟨n, Nat.le_refl _, hn, ?_, hp, hx⟩
      rw [runGo, Int.toNat_natCast, if_neg (rstep_no h hn hp hB hx)]
theorem runF_front (h : okU all) (hB : B <+: rFrames all) : ∃ m, m ≤ all.length ∧ runF B = (all.take m, ((rFrames (all.take m)).length : Int)) ∧ rFrames (all.take m) <+: B ∧ ∀ x, all[m]? = some x → ¬ rFrames (all.take m) ++ rFrame x <+: B := by
  obtain ⟨m, _, m2, m3, m4, m5⟩ := runGo_front h hB B.length 0 (Nat.zero_le _) (by simp [rFrames]) (by simp [rFrames])
  exact ⟨m, m2, m3, m4, m5⟩
theorem frames_mono {a b : Nat} (h : a ≤ b) : rFrames (l.take a) <+: rFrames (l.take b) := by
  have e : l.take b = l.take a ++ (l.take b).drop a := by
    have := List.take_append_drop a (l.take b)
    rwa [List.take_take, Nat.min_eq_left h, eq_comm] at this
  rw [e, rFrames_app]; exact List.prefix_append _ _
theorem run_front (h : okU all) (hB : B <+: rFrames all) {sure : List DRun} (hs : sure <+: all) (hS : rFrames sure <+: B) : (runF B).1 <+: all ∧ sure <+: (runF B).1 := by
  obtain ⟨m, m2, m3, m4, m5⟩ := runF_front h hB
  rw [m3]; refine ⟨List.take_prefix _ _, ?_⟩
  have e := prefix_take hs
  rcases Nat.lt_or_ge m sure.length with q | q
  · exfalso
    have hl := hs.length_le
    obtain ⟨x, hx⟩ : ∃ x, all[m]? = some x := ⟨_, List.getElem?_eq_getElem (by omega)⟩
    refine m5 x hx ?_
    have e1 : rFrames (all.take (m + 1)) = rFrames (all.take m) ++ rFrame x := by rw [take_one hx, rFrames_app, rFrames_one]
    rw [← e1]
    refine (frames_mono (l := all) (show m + 1 ≤ sure.length by omega)).trans ?_
    rw [← e]; exact hS
  · rw [e]; exact List.take_prefix_take_left q
theorem run_whole (h : okU all) : runF (rFrames all) = (all, ((rFrames all).length : Int)) := by
  obtain ⟨h1, h2⟩ := run_front h (List.prefix_refl _) (List.prefix_refl all) (List.prefix_refl _)
  obtain ⟨m, m2, m3, m4, m5⟩ := runF_front h (List.prefix_refl _)
  have e : all.take m = all := by
    have := h2.length_le; rw [m3] at this; simp only [List.length_take] at this
    exact List.take_of_length_le (by omega)
  rw [m3, e]
end
structure Hd2 (d : DDisk) (B : Bytes) : Prop where
  on : Onn d
  cur : getF (curD d) 2 = B
section
variable {d : DDisk} {B b : Bytes} {n : Int} {l all sure : List DRun} {x : DRun} {k t : Int}
theorem h2_cut (h : Hd2 d B) (hn : 0 ≤ n) (hl : n ≤ B.length) : (dCut d 2 n).2 = 0 ∧ Hd2 (dCut d 2 n).1 (B.take n.toNat) := by
  obtain ⟨h1, h2, h3, _⟩ := on_cut (f := 2) (n := n) h.on (by decide) hn (by rw [h.cur]; exact hl)
  exact ⟨h1, h2, by rw [h3, get_set (by decide) (by decide), if_pos rfl, h.cur]⟩
theorem h2_sync (h : Hd2 d B) : (dSync d).2 = 0 ∧ Hd2 (dSync d).1 B := by
  obtain ⟨h1, h2, h3, h4⟩ := on_sync h.on
  exact ⟨h1, h2, by rw [cur_none h4, h3, h.cur]⟩
theorem h2_read (h : Hd2 d B) : dRead d 2 = (B, 0) := by rw [on_read h.on (by decide), h.cur]
theorem h2_held (h : Hd2 d B) : heldB d.2.2.2.2.2.1 d.2.2.2.2.2.2 2 = B := by rw [cur_held h.on.ok (by decide), h.cur]
theorem h2_open (h : Hd2 d B) : (uOpen d).2 = 0 ∧ (runF (dRead d 2).1).1 = (runF B).1 := by
  have hb := runF_bounds B
  unfold uOpen; rw [if_neg (not_not_intro (onn_right h.on)), h2_read h]
  refine ⟨?_, rfl⟩
  dsimp only
  unfold tornD; rw [h2_held h]
  split
  · rfl
  · obtain ⟨h1, h2⟩ := h2_cut h hb.1 hb.2.1
    rw [if_neg (not_not_intro h1)]; exact (h2_sync h2).1
/-- all is flushed; the disk is on -/
def Ku (d : DDisk) (l : List DRun) : Prop := d.2.1 = false ∧ okU l ∧ ∃ A, Pg d A A ∧ getF A 2 = rFrames l
/-- the disk may be off -/
def Kq (d : DDisk) (all sure : List DRun) : Prop := okU all ∧ sure <+: all ∧ ∃ A S, Pg d A S ∧ getF A 2 <+: rFrames all ∧ getF S 2 = rFrames sure
theorem ku_new : Ku newD [] := ⟨rfl, okU_nil, ([], [], [], []), pg_none ⟨okD_new, rfl, rfl, rfl⟩ rfl, rfl⟩
theorem ku_on (h : Ku d l) : onD d := by
  obtain ⟨h1, h2, A, h4, h5⟩ := h
  exact ⟨h4.made, h1⟩
theorem ku_flush (h : Ku d l) (hc : runCheck x = 0) (hx : x.1 = endR l + 1) :
    ((uFlush d false l x).2 = 0 ∧ Ku (uFlush d false l x).1.1 (l ++ [x]) ∧ (uFlush d false l x).1.2 = (false, l ++ [x])) ∨ ((uFlush d false l x).2 = 6 ∧ Kq (uFlush d false l x).1.1 (l ++ [x]) l ∧ (uFlush d false l x).1.2 = (true, l)) := by
  have ho := ku_on h
  obtain ⟨o1, o2, A, o4, o5⟩ := h
  have hl := okU_snoc o2 hc hx
  have e0 : ∀ (br : Bool), ¬ (false = true ∨ ¬ onD d) := fun _ q => q.elim (by decide) (· ho)
  unfold uFlush
  rw [if_neg (e0 false), if_neg (not_not_intro hc), if_neg (not_not_intro hx)]
  obtain ⟨p, p1, p2, p3⟩ := pg_write (f := 2) (b := rFrame x) o4 o1 (by decide)
  have e : getF (setF A 2 (getF A 2 ++ p)) 2 = rFrames l ++ p := by rw [get_set (by decide) (by decide), if_pos rfl, o5]
  rcases p3 with ⟨q1, q2, q3⟩ | ⟨q1, q2⟩
  · rw [if_neg (not_not_intro q1)]
    subst q2
    rcases pg_sync p2 q3 with ⟨r1, r2, r3, r4⟩ | ⟨r1, r2, r3⟩
    · rw [if_neg (not_not_intro r1)]
      left; exact ⟨rfl, ⟨r3, hl, _, r2, by rw [e, rFrames_app, rFrames_one]⟩, rfl⟩
    · rw [if_pos (by rw [r1]; decide)]
      right; exact ⟨r1, ⟨hl, List.prefix_append _ _, _, A, r2, by rw [e, rFrames_app, rFrames_one]; exact List.prefix_refl _, o5⟩, rfl⟩
  · rw [if_pos (by rw [q1]; decide)]
    right; exact ⟨q1, ⟨hl, List.prefix_append _ _, _, A, p2, by rw [e, rFrames_app, rFrames_one]; exact (List.prefix_append_right_inj _).2 p1, o5⟩, rfl⟩
end
def goOne (put : Bool) : List DOp → DOp → List DOp
  | [], o => if put then [] else [o]
  | x :: t, o => (if put = false ∧ ¬ kl x.2.1 o.2.1 then [o] else []) ++ ((if ¬ x.2.1 = o.2.1 then [x] else []) ++ goOne (put || decide (¬ kl x.2.1 o.2.1)) t o)
def tOne (t : List DOp) (o : DOp) : List DOp := goOne false t o
section
variable {t l : List DOp} {o x : DOp} {k : Nat}
theorem goOne_true : ∀ {t : List DOp}, (∀ x ∈ t, ¬ x.2.1 = o.2.1) → goOne true t o = t
  | [], _ => rfl
  | x :: t, h => by
    rw [goOne, if_neg (fun q => by cases q.1), if_pos (h x (.head _)), Bool.true_or, goOne_true fun y hy => h y (.tail _ hy)]; rfl
theorem goOne_lt (h : kl x.2.1 o.2.1) : goOne false (x :: t) o = x :: goOne false t o := by
  rw [goOne, if_neg (fun q => q.2 h), if_pos (kl_ne h), decide_eq_false (not_not_intro h)]; rfl
theorem after_ne (h : opsUp (x :: t)) (hk : ¬ kl x.2.1 o.2.1) : ∀ y ∈ t, kl o.2.1 y.2.1 := fun y hy => kl_le_lt hk ((List.pairwise_cons.1 h.2).1 y hy)
theorem goOne_eq (h : opsUp (x :: t)) (hk : x.2.1 = o.2.1) : goOne false (x :: t) o = o :: t := by
  have hn : ¬ kl x.2.1 o.2.1 := by rw [hk]; exact kl_irrefl _
  rw [goOne, if_pos ⟨rfl, hn⟩, if_neg (not_not_intro hk), decide_eq_true hn, Bool.or_true, goOne_true fun y hy e => kl_ne (after_ne h hn y hy) e.symm]; rfl
theorem goOne_gt (h : opsUp (x :: t)) (hk : ¬ kl x.2.1 o.2.1) (hne : ¬ x.2.1 = o.2.1) : goOne false (x :: t) o = o :: x :: t := by
  rw [goOne, if_pos ⟨rfl, hk⟩, if_pos hne, decide_eq_true hk, Bool.or_true, goOne_true fun y hy e => kl_ne (after_ne h hk y hy) e.symm]; rfl
theorem ups_tail (h : opsUp (x :: t)) : opsUp t := ⟨fun y hy => h.1 y (.tail _ hy), (List.pairwise_cons.1 h.2).2⟩
theorem ups_cons (hc : opCheck x = 0) (h : opsUp t) (hl : ∀ y ∈ t, kl x.2.1 y.2.1) : opsUp (x :: t) := ⟨fun y hy => by
  rcases List.mem_cons.1 hy with rfl | hy
  · exact hc
  · exact h.1 y hy, List.pairwise_cons.2 ⟨hl, h.2⟩⟩
theorem tOne_up : ∀ {t : List DOp}, opsUp t → opCheck o = 0 → opsUp (tOne t o) ∧ (tOne t o).length ≤ t.length + 1 ∧ ∀ y ∈ tOne t o, y = o ∨ y ∈ t
  | [], h, hc => ⟨ups_cons hc ups_nil (fun y hy => by cases hy), Nat.le_refl _, fun y hy => .inl (by simpa [tOne, goOne] using hy)⟩
  | x :: t, h, hc => by
    have hx := h.1 x (.head _)
    by_cases hk : kl x.2.1 o.2.1
    · obtain ⟨i1, i2, i3⟩ := tOne_up (ups_tail h) hc
      have e : tOne (x :: t) o = x :: tOne t o := goOne_lt hk
      rw [e]
      refine ⟨ups_cons hx i1 fun y hy => ?_, by simp only [List.length_cons]; omega, fun y hy => ?_⟩
      · rcases i3 y hy with rfl | hy
        · exact hk
        · exact (List.pairwise_cons.1 h.2).1 y hy
      · rcases List.mem_cons.1 hy with rfl | hy
        · exact .inr (.head _)
        · exact (i3 y hy).imp id (.tail _)
    · by_cases hq : x.2.1 = o.2.1
      · have e : tOne (x :: t) o = o :: t := goOne_eq h hq
        rw [e]
        exact ⟨ups_cons hc (ups_tail h) (after_ne h hk), by simp, fun y hy => (List.mem_cons.1 hy).imp id (.tail _)⟩
      · have e : tOne (x :: t) o = o :: x :: t := goOne_gt h hk hq
        rw [e]
        refine ⟨ups_cons hc h fun y hy => ?_, by simp, fun y hy => (List.mem_cons.1 hy).imp id id⟩
        rcases List.mem_cons.1 hy with rfl | hy
        · exact kl_of hk (fun q => hq q.symm)
        · exact after_ne h hk y hy
end
abbrev Dref07Table := Bool × (List DOp)
instance decref07Table : DecidableEq Dref07Table := (@instDecidableEqProd _ _ inferInstance inferInstance)
section
variable {t : Dref07Table} {l tl : List DOp} {o x : DOp} {k : Nat}
theorem all_one {k : Nat} (ha : ∀ o ∈ l.take k, opCheck o = 0) (hx : l[k]? = some x) (hc : ¬ ¬ opCheck x = 0) : ∀ o ∈ l.take (k + 1), opCheck o = 0 := fun o ho => by
  rw [take_one hx] at ho
  rcases List.mem_append.1 ho with ho | ho
  · exact ha o ho
  · rw [List.mem_singleton.1 ho]; exact Decidable.not_not.1 hc
end
def mPutO (t : MapD) (o : DOp) : MapD := mPut t o.2.1 (o.2.2, o.1)
def mApply (t : MapD) (l : List DOp) : MapD × Int := if ∀ o ∈ l, opCheck o = 0 then (l.foldl mPutO t, 0) else (t, 2)
section
variable {t : MapD} {l : List DOp} {x : DOp} {k : Nat}
theorem mfold_next (hx : l[k]? = some x) : (l.take (k + 1)).foldl mPutO t = mPut ((l.take k).foldl mPutO t) x.2.1 (x.2.2, x.1) := by rw [take_one hx, List.foldl_append]; rfl
theorem mApply_bad (hx : l[k]? = some x) (hc : ¬ opCheck x = 0) : mApply t l = (t, 2) := if_neg fun q => hc (q x (List.mem_of_getElem? hx))
theorem mApply_good (hc : ∀ o ∈ l, opCheck o = 0) : mApply t l = (l.foldl mPutO t, 0) := if_pos hc
theorem get_put (t : MapD) (k q : List UInt8) (v : List UInt8 × Bool) : mGet (mPut t k v) q = if k = q then some v else mGet t q := by
  induction t with
  | nil => by_cases h : k = q <;> simp [mPut, mGet, h]
  | cons x t ih =>
    rw [mPut]
    by_cases hx : x.1 = k
    · rw [if_pos hx]
      by_cases h : k = q
      · simp [mGet, h]
      · have : ¬ x.1 = q := by rw [hx]; exact h
        simp [mGet, h, this]
    · rw [if_neg hx]
      by_cases hq : x.1 = q
      · have : ¬ k = q := fun e => hx (hq.trans e.symm)
        simp [mGet, hq, this]
      · have e1 : mGet (x :: mPut t k v) q = mGet (mPut t k v) q := by simp [mGet, List.find?_cons, hq]
        have e2 : mGet (x :: t) q = mGet t q := by simp [mGet, List.find?_cons, hq]
        rw [e1, e2, ih]
end
def opPair (o : DOp) : List UInt8 × Bool := (o.2.2, o.1)
section
variable {t : MapD} {u : List DRun} {l y : List DOp} {q : Bytes} {d : DDisk} {br : Bool} {i : Nat} {x : DRun}
/-- no fuse; all is flushed -/
def Kz (d : DDisk) (u : List DRun) : Prop := Onn d ∧ Ku d u
theorem kz_new : Kz newD [] := ⟨⟨okD_new, rfl, rfl, rfl⟩, ku_new⟩
theorem kz_flush (h : Kz d u) (hc : runCheck x = 0) (hx : x.1 = endR u + 1) : (uFlush d false u x).2 = 0 ∧ Kz (uFlush d false u x).1.1 (u ++ [x]) ∧ (uFlush d false u x).1.2 = (false, u ++ [x]) := by
  obtain ⟨w1, w2, _⟩ := on_write (f := 2) (b := rFrame x) h.1 (by decide)
  obtain ⟨s1, s2, _⟩ := on_sync w2
  have e : uFlush d false u x = (((dSync (dWrite d 2 (rFrame x)).1).1, false, u ++ [x]), 0) := by
    unfold uFlush
    rw [if_neg (fun q => q.elim (by decide) (· (ku_on h.2))), if_neg (not_not_intro hc), if_neg (not_not_intro hx), if_neg (not_not_intro w1), if_neg (not_not_intro s1)]
  rcases ku_flush h.2 hc hx with ⟨a, b, c⟩ | ⟨a, _⟩
  · exact ⟨a, ⟨by rw [e]; exact s2, b⟩, c⟩
  · rw [e] at a; cases a
end
theorem fnOk56 : fnOk Tryz.prog 56 = true := by kernel_rfl
theorem tk108 : tk Tryz.prog 108 = some none := by kernel_rfl
theorem tk113 : tk Tryz.prog 113 = some (some 2) := by kernel_rfl
theorem tst110 : tst Tryz.prog 110 = some [(0, 1)] := by kernel_rfl
theorem tst113 : tst Tryz.prog 113 = some [(0, 1), (1, 1)] := by kernel_rfl
theorem tz110 : tz Tryz.prog 110 = some [.map none] := by kernel_rfl
theorem tz113 : tz Tryz.prog 113 = some [.string ⟨#[]⟩, .bool false] := by kernel_rfl
theorem tNew_ok (W : World) : CallR Tryz.prog 23 [] W (mnil) (fun v m' => ∃ (s0 : Nat), v = .pointer (some ⟨s0, 0, none⟩) ∧ Ow (.ptr TtableTable) m' [.pointer (some ⟨s0, 0, none⟩)] (s0, ([] : MapD))) := by
  refine CallR.ofA (n := 4) Tryz.func23 rfl rfl rfl ?_
  refine VC.rs ?_
  refine VO.as ?_
  refine VO.k1 0 ?_
  refine VC.rs ?_
  refine VO.mkmap 101 rfl (fun gm1 mm1 hm1 => ?_)
  refine VO.y rfl (.bst (cs := [Value.map (some gm1)]) rfl tst110 tz110 rfl) ?_
  refine VO.box (cs := [Value.map (some gm1)]) 103 rfl rfl rfl (fun g2 => ?_)
  refine VO.as ?_
  refine VO.k1 0 ?_
  refine VC.ret ?_
  refine ⟨_, _, res_run (rs := [.tmp 0]) rfl (.tmp rfl .nil), fun W_ hI => out_of (l := [mone g2 (.cells [Value.map (some gm1)].toArray 110 (0, 0)), mm1]) hI [103, 101] rfl rfl (mle_refl _) (fun hS_ => ?_)⟩
  dsimp only [packV]
  have he0 : (([] : MapD) : DtableTable) = [] := by first | rfl | (simp [*]; done)
  refine ⟨g2, ?_, ?_⟩
  rotate_left
  · rw [he0]; exact (mkP_tableTable [] hS_ hm1)
  all_goals (first | rfl | (simp [*]; done))
theorem tNone_ok (W : World) {m0 : Mem} (hm : mle (m0) (wm W)) {g0 : Nat} {d0 : DtableTable} (h0 : Ow (.ptr TtableTable) m0 [.pointer (some ⟨g0, 0, none⟩)] (g0, d0)) : CallR Tryz.prog 56 [.pointer (some ⟨g0, 0, none⟩)] W (m0) (fun v m' => v = .bool (decide (False)) ∧ Ow (.ptr TtableTable) m' [.pointer (some ⟨g0, 0, none⟩)] (g0, d0)) := by
  refine CallR.ofB (n := 12) hm Tryz.func56 rfl rfl rfl ?_
  refine VC.rs ?_
  refine VO.as ?_
  refine VO.k2 0 2 ?_
  refine VC.rs ?_
  refine VO.mv ?_
  refine VO.y rfl (.pnil rfl rfl Tryz.underlying37 rfl) ?_
  refine VO.mv ?_
  refine VO.gy rfl ⟨_, rfl, rfl⟩ (.mv rfl) ?_
  refine VO.gy rfl ⟨_, rfl, rfl⟩ (.nilp rfl) ?_
  refine VO.gy rfl ⟨_, rfl, rfl⟩ (.fa rfl tst110 rfl) ?_
  obtain ⟨q1_E, q1_r0, q1_n0, _, q1_S, q1_0⟩ := openP_tableTable (x0 := d0) h0
  refine VO.inv _ (fun _ h => h.parts (i := 1) rfl q1_S [103, 102]) ?_
  refine VO.gy rfl ⟨_, rfl, rfl⟩ (.ld1 103 rfl tk108 rfl (cellsAt_one rfl rfl)) ?_
  refine VO.gy rfl ⟨_, rfl, rfl⟩ (.mnil rfl rfl Tryz.underlying108) ?_
  refine VO.y rfl (.pF rfl rfl) ?_
  refine VO.as ?_
  refine VO.clsP 104 [103, 102] rfl (fun hg4 => (mkP_tableTable d0 hg4 q1_0)) (fun mc4 ho4 => ?_)
  refine VO.k2 0 2 ?_
  refine VC.ret ?_
  refine ⟨_, _, res_run (rs := [.tmp 2]) rfl (.tmp rfl .nil), fun W_ hI => out_of (l := [mc4]) hI [104] rfl rfl (mle_refl _) (fun hS_ => ?_)⟩
  dsimp only [packV]
  have hm0_ : (d0 : DtableTable) = d0 := by first | rfl | (simp [*]; done)
  refine ⟨?_, ?_⟩
  rotate_left
  · rw [hm0_]; exact (Ow.up ho4 (hS_.1 _ (.head _)))
  all_goals (first | rfl | (rfl))
theorem tApply_ok (W : World) {m0 : Mem} (hm : mle (m0) (wm W)) {g0 : Nat} {d0 : DtableTable} (h0 : Ow (.ptr TtableTable) m0 [.pointer (some ⟨g0, 0, none⟩)] (g0, d0)) {v1 : Value} {d1 : List DOp} (h1 : Rd (.sl TOp) (mout (wm W) (m0)) [v1] d1) : CallR Tryz.prog 24 [.pointer (some ⟨g0, 0, none⟩), v1] W (m0) (fun v m' => v = .int .i64 ((mApply d0 d1).2) ∧ Ow (.ptr TtableTable) m' [.pointer (some ⟨g0, 0, none⟩)] (g0, (mApply d0 d1).1)) := by
  obtain ⟨A1, c1, rfl, l1, k1⟩ := h1.slice
  simp only [maxLen] at k1
  refine CallR.ofB (n := 39) hm Tryz.func24 rfl rfl rfl ?_
  refine VC.rs ?_
  refine VO.as ?_
  refine VO.k3 0 1 4 ?_
  refine VC.seq ?_
  refine VC.rs ?_
  refine VO.mv ?_
  refine VO.call 1 rfl fnOk56 rfl rfl (fun W hW => tNone_ok W (hW.at (i := 1) rfl) h0) (fun v1 m1 hv1 => ?_)
  obtain ⟨rfl, w1_0⟩ := hv1
  refine VO.k4 0 1 4 10 ?_
  refine VC.cond rfl (fun hc2 => ?_) (fun hc2 => ?_)
  · -- T
    exact hc2.elim
  · -- F
    refine VC.skip ?_
    refine outN ?_
    refine VC.seq ?_
    refine VC.rs ?_
    refine VO.mv ?_
    refine VO.y rfl (.lenS rfl tsl34) ?_
    refine VO.mv ?_
    refine VO.kp [1, 0] [(1, m1), (0, mout (wm W) (m0))] ?_
    refine VO.k7 0 1 4 10 11 12 13 ?_
    refine VC.block ?_
    refine VC.loop (G := Nat) (fun k => [(13, Value.int .i64 (((k : Nat) : Int))), (0, Value.pointer (some ⟨g0, 0, none⟩)), (1, Value.slice A1 (d1.length) (c1)), (10, Value.bool (decide (False))), (11, Value.slice A1 (d1.length) (c1)), (12, Value.int .i64 (((d1.length : Nat) : Int)))]) (fun k => [(1, m1), (0, mout (wm W) (m0))]) (fun k => (k ≤ d1.length) ∧ (∀ o ∈ d1.take k, opCheck o = 0)) (fun k => d1.length - k) 0 (⟨by omega, by simp⟩) ⟨⟨rfl, rfl, rfl, rfl, rfl, rfl, trivial⟩, fun _ h => h.sub [1, 0]⟩ ?_
    rintro k ⟨hk, ha⟩
    refine VC.rs ?_
    refine VO.y rfl (.lss rfl rfl) ?_
    refine VO.k7 0 1 10 11 12 13 14 ?_
    refine VC.seq ?_
    refine VC.cond rfl (fun hc3 => ?_) (fun hc3 => ?_)
    · -- FT
      refine VC.skip ?_
      refine outN ?_
      refine VC.seq ?_
      refine VC.block ?_
      refine VC.rs ?_
      obtain ⟨x4, hx4⟩ : ∃ z_, (d1)[k]? = some z_ := ⟨_, List.getElem?_eq_getElem bd⟩
      obtain ⟨gg4, oo4, ec4, ea4, hce4, hre4⟩ := h1.elem hx4
      cases ea4
      obtain ⟨rfl, q4_1, q4_2⟩ := open_Op (x0 := x4.1) (x1 := x4.2.1) (x2 := x4.2.2) hre4
      simp only [maxLen] at q4_1
      simp only [maxLen] at q4_2
      refine VO.y rfl (.ixI k rfl rfl tsl34 rfl bd) ?_
      refine VO.y rfl (.ldA 0 rfl tk64 rfl hce4) ?_
      refine VO.alloc 106 rfl tz64 (fun g5 => ?_)
      refine VO.store (k := 3) (c' := [Value.bool x4.1, str (x4.2.1), str (x4.2.2)]) 106 rfl rfl (.inl tk64) rfl rfl rfl rfl rfl ?_
      refine VO.k8 0 1 6 10 11 12 13 14 ?_
      refine VC.rs ?_
      refine VO.y rfl (.ldA 106 rfl tk64 rfl (cellsAt_one rfl rfl)) ?_
      refine VO.callN 107 rfl fnOk57 rfl (fun W hW => opCheck_ok W (Rd.mono hre4 (hW.at (i := 0) rfl))) (fun v7 m7 hv7 => ?_)
      subst hv7
      refine VO.y rfl (.neq rfl rfl) ?_
      refine VO.kp [106, 1, 0] [(106, mone g5 (.cells [Value.bool x4.1, str (x4.2.1), str (x4.2.2)].toArray 64 (0, 0))), (1, m1), (0, mout (wm W) (m0))] ?_
      refine VO.k9 0 1 6 10 11 12 13 14 19 ?_
      refine VC.cond rfl (fun hc8 => ?_) (fun hc8 => ?_)
      · -- FTT
        refine VC.rs ?_
        refine VO.as ?_
        refine VO.k10 0 1 4 6 10 11 12 13 14 19 ?_
        refine VC.ret ?_
        refine outBR ?_
        refine outR ?_
        refine outR ?_
        refine outBR ?_
        refine outR ?_
        refine ⟨_, _, res_run (rs := [.tmp 4]) rfl (.tmp rfl .nil), fun W_ hI => out_of (l := [m1]) hI [1] rfl rfl (mle_refl _) (fun hS_ => ?_)⟩
        dsimp only [packV]
        have hm0_ : ((mApply d0 d1).1 : DtableTable) = d0 := by first | rfl | (first | exact congrArg Prod.fst (mApply_bad ‹d1[k]? = some _› (by assumption)) | (rw [mApply_good (by have h_ := ha; rw [List.take_of_length_le (by omega)] at h_; exact h_), ht, List.take_of_length_le (by omega)]; done))
        refine ⟨?_, ?_⟩
        rotate_left
        · rw [hm0_]; exact (Ow.up w1_0 (hS_.1 _ (.head _)))
        all_goals (first | rfl | (first | exact congrArg (Value.int _) (congrArg Prod.snd (mApply_bad ‹d1[k]? = some _› (by assumption))).symm | exact congrArg (Value.int _) (congrArg Prod.snd (mApply_good (by have h_ := ha; rw [List.take_of_length_le (by omega)] at h_; exact h_))).symm))
      · -- FTF
        refine VC.skip ?_
        refine outBN ?_
        refine outN ?_
        refine VC.reg ?_
        refine VO.y rfl (.add (c := ((k + 1 : Nat) : Int)) rfl rfl (by omega) ⟨bd, bd⟩) ?_
        refine VO.mv ?_
        refine VO.k9 0 1 6 10 11 12 13 14 19 ?_
        exact outN ⟨k + 1, ⟨by omega, by exact all_one ha ‹d1[k]? = some _› (by assumption)⟩, bd, ⟨⟨rfl, rfl, rfl, rfl, rfl, rfl, trivial⟩, fun _ h => Inv.sub h [1, 0]⟩⟩
    · -- FF
      refine VC.exit ?_
      refine outE ?_
      refine outE ?_
      refine outBB ?_
      refine outN ?_
      refine VC.seq ?_
      refine VC.rs ?_
      refine VO.mv ?_
      refine VO.y rfl (.lenS rfl tsl34) ?_
      refine VO.mv ?_
      refine VO.k10 0 1 10 11 12 13 14 21 22 23 ?_
      refine VC.block ?_
      refine VC.loop (G := Nat × DtableTable × Mem) (fun g => [(23, Value.int .i64 ((((g.1) : Nat) : Int))), (0, Value.pointer (some ⟨g0, 0, none⟩)), (1, Value.slice A1 (d1.length) (c1)), (10, Value.bool (decide (False))), (11, Value.slice A1 (d1.length) (c1)), (12, Value.int .i64 (((d1.length : Nat) : Int))), (13, Value.int .i64 (((k : Nat) : Int))), (14, Value.bool (decide (((k : Nat) : Int) < ((d1.length : Nat) : Int)))), (21, Value.slice A1 (d1.length) (c1)), (22, Value.int .i64 (((d1.length : Nat) : Int)))]) (fun g => [(1, (g.2.2)), (0, mout (wm W) (m0))]) (fun g => ((g.1) ≤ d1.length) ∧ ((g.2.1) = (d1.take (g.1)).foldl mPutO d0) ∧ (Ow (.ptr TtableTable) (g.2.2) [.pointer (some ⟨g0, 0, none⟩)] (g0, (g.2.1)))) (fun g => d1.length - (g.1)) (0, d0, m1) (⟨by omega, by rfl, w1_0⟩) ⟨⟨rfl, rfl, rfl, rfl, rfl, rfl, rfl, rfl, rfl, rfl, trivial⟩, fun _ h => h.sub [1, 0]⟩ ?_
      rintro ⟨j, t, t_m⟩ ⟨hj, ht, h_t⟩
      replace hj : j ≤ d1.length := hj
      replace ht : t = (d1.take j).foldl mPutO d0 := ht
      replace h_t : Ow (.ptr TtableTable) t_m [.pointer (some ⟨g0, 0, none⟩)] (g0, t) := h_t
      show VC _ _ _ _ _ [(23, Value.int .i64 (((j : Nat) : Int))), (0, Value.pointer (some ⟨g0, 0, none⟩)), (1, Value.slice A1 (d1.length) (c1)), (10, Value.bool (decide (False))), (11, Value.slice A1 (d1.length) (c1)), (12, Value.int .i64 (((d1.length : Nat) : Int))), (13, Value.int .i64 (((k : Nat) : Int))), (14, Value.bool (decide (((k : Nat) : Int) < ((d1.length : Nat) : Int)))), (21, Value.slice A1 (d1.length) (c1)), (22, Value.int .i64 (((d1.length : Nat) : Int)))] [(1, t_m), (0, mout (wm W) (m0))]
      refine VC.rs ?_
      refine VO.y rfl (.lss rfl rfl) ?_
      refine VO.kp [1, 0] [(1, t_m), (0, mout (wm W) (m0))] ?_
      refine VO.k11 0 1 10 11 12 13 14 21 22 23 24 ?_
      refine VC.seq ?_
      refine VC.cond rfl (fun hc9 => ?_) (fun hc9 => ?_)
      · -- FFT
        refine VC.skip ?_
        refine outN ?_
        refine VC.seq ?_
        refine VC.block ?_
        refine VC.rs ?_
        obtain ⟨x10, hx10⟩ : ∃ z_, (d1)[j]? = some z_ := ⟨_, List.getElem?_eq_getElem bd⟩
        obtain ⟨gg10, oo10, ec10, ea10, hce10, hre10⟩ := h1.elem hx10
        cases ea10
        obtain ⟨rfl, q10_1, q10_2⟩ := open_Op (x0 := x10.1) (x1 := x10.2.1) (x2 := x10.2.2) hre10
        simp only [maxLen] at q10_1
        simp only [maxLen] at q10_2
        refine VO.y rfl (.ixI j rfl rfl tsl34 rfl bd) ?_
        refine VO.y rfl (.ldA 0 rfl tk64 rfl hce10) ?_
        refine VO.alloc 112 rfl tz64 (fun g11 => ?_)
        refine VO.store (k := 3) (c' := [Value.bool x10.1, str (x10.2.1), str (x10.2.2)]) 112 rfl rfl (.inl tk64) rfl rfl rfl rfl rfl ?_
        refine VO.k12 0 1 8 10 11 12 13 14 21 22 23 24 ?_
        obtain ⟨q13_E, q13_r0, q13_n0, _, q13_S, q13_0⟩ := openP_tableTable (x0 := t) h_t
        refine VC.inv _ (fun _ h => h.parts (i := 1) rfl q13_S [115, 114]) ?_
        refine VC.regD _ 11 [(0, true), (1, true), (2, true), (3, true), (4, true), (5, true), (6, true), (7, true), (8, true), (9, true), (10, true)] follows (by kernel_rfl) (fun _ h => h.sub [115, 114, 112, 0]) ?_
        refine VD.y rfl rfl (.inl rfl) (.mv rfl) ?_
        refine VD.y rfl rfl (.inl rfl) (.nilp rfl) ?_
        refine VD.y rfl rfl (.inl rfl) (.fa rfl tst110 rfl) ?_
        refine VD.y rfl rfl (.inl rfl) (.ld1 115 rfl tk108 rfl (cellsAt_one rfl rfl)) ?_
        refine VD.y rfl rfl (.inl rfl) (.fa rfl tst64 rfl) ?_
        refine VD.y rfl rfl (.inl rfl) (.ld1 112 rfl tk9 rfl (cellsAt_one rfl rfl)) ?_
        refine VD.y rfl rfl (.inl rfl) (.fa rfl tst64 rfl) ?_
        refine VD.y rfl rfl (.inl rfl) (.ld1 112 rfl tk9 rfl (cellsAt_one rfl rfl)) ?_
        refine VD.y rfl rfl (.inl rfl) (.fa rfl tst64 rfl) ?_
        refine VD.y rfl rfl (.inl rfl) (.ld1 112 rfl tk4 rfl (cellsAt_one rfl rfl)) ?_
        refine VD.y rfl rfl (.inl rfl) (.bst (cs := [str (x10.2.2), Value.bool x10.1]) rfl tst113 tz113 rfl) ?_
        refine VD.nil rfl ?_ rfl
        refine VO.mupd (v := (x10.2.2, x10.1)) 114 rfl rfl rfl Tryz.underlying108 Tryz.underlying9 rfl q13_0 bdm bdm (fun mu16 hu16 => ?_)
        refine VO.clsP 117 [115, 114] rfl (fun hg17 => (mkP_tableTable (mPut t x10.2.1 (x10.2.2, x10.1)) hg17 hu16)) (fun mc17 ho17 => ?_)
        refine VO.k12 0 1 8 10 11 12 13 14 21 22 23 24 ?_
        refine outBN ?_
        refine outN ?_
        refine VC.reg ?_
        refine VO.y rfl (.add (c := ((j + 1 : Nat) : Int)) rfl rfl (by omega) ⟨bd, bd⟩) ?_
        refine VO.mv ?_
        refine VO.kp [117, 112, 0] [(117, mc17), (112, mone g11 (.cells [Value.bool x10.1, str (x10.2.1), str (x10.2.2)].toArray 64 (0, 0))), (0, mout (wm W) (m0))] ?_
        refine VO.k12 0 1 8 10 11 12 13 14 21 22 23 24 ?_
        exact outN ⟨⟨j + 1, mPut t x10.2.1 (x10.2.2, x10.1), mc17⟩, ⟨by omega, by (rw [ht, mfold_next ‹d1[j]? = some _›]; done), ho17⟩, bd, ⟨⟨rfl, rfl, rfl, rfl, rfl, rfl, rfl, rfl, rfl, rfl, trivial⟩, fun _ h => Inv.sub (Inv.num h 117 1 rfl) [1, 0]⟩⟩
      · -- FFF
        refine VC.exit ?_
        refine outE ?_
        refine outE ?_
        refine outBB ?_
        refine outN ?_
        refine VC.rs ?_
        refine VO.as ?_
        refine VO.k12 0 1 4 10 11 12 13 14 21 22 23 24 ?_
        refine VC.ret ?_
        refine ⟨_, _, res_run (rs := [.tmp 4]) rfl (.tmp rfl .nil), fun W_ hI => out_of (l := [t_m]) hI [1] rfl rfl (mle_refl _) (fun hS_ => ?_)⟩
        dsimp only [packV]
        have hm0_ : ((mApply d0 d1).1 : DtableTable) = t := by first | rfl | (first | exact congrArg Prod.fst (mApply_bad ‹d1[k]? = some _› (by assumption)) | (rw [mApply_good (by have h_ := ha; rw [List.take_of_length_le (by omega)] at h_; exact h_), ht, List.take_of_length_le (by omega)]; done))
        refine ⟨?_, ?_⟩
        rotate_left
        · rw [hm0_]; exact (Ow.up h_t (hS_.1 _ (.head _)))
        all_goals (first | rfl | (first | exact congrArg (Value.int _) (congrArg Prod.snd (mApply_bad ‹d1[k]? = some _› (by assumption))).symm | exact congrArg (Value.int _) (congrArg Prod.snd (mApply_good (by have h_ := ha; rw [List.take_of_length_le (by omega)] at h_; exact h_))).symm))
theorem tGet_ok (W : World) {m0 : Mem} (hm : mle (m0) (wm W)) {g0 : Nat} {d0 : DtableTable} (h0 : Ow (.ptr TtableTable) m0 [.pointer (some ⟨g0, 0, none⟩)] (g0, d0)) (d1 : List UInt8) (h1 : d1.length ≤ maxLen) : CallR Tryz.prog 26 [.pointer (some ⟨g0, 0, none⟩), str d1] W (m0) (fun v m' => v = .tuple #[str (((mGet d0 d1).getD ([], false)).1), .bool ((mGet d0 d1).isSome), .bool (((mGet d0 d1).getD ([], false)).2)] ∧ Ow (.ptr TtableTable) m' [.pointer (some ⟨g0, 0, none⟩)] (g0, d0)) := by
  have h1' := h1; simp only [maxLen] at h1'
  refine CallR.ofB (n := 25) hm Tryz.func26 rfl rfl rfl ?_
  refine VC.rs ?_
  refine VO.as ?_
  refine VO.as ?_
  refine VO.as ?_
  refine VO.k5 0 1 4 5 6 ?_
  refine VC.seq ?_
  refine VC.rs ?_
  refine VO.mv ?_
  refine VO.call 1 rfl fnOk56 rfl rfl (fun W hW => tNone_ok W (hW.at (i := 1) rfl) h0) (fun v1 m1 hv1 => ?_)
  obtain ⟨rfl, w1_0⟩ := hv1
  refine VO.k6 0 1 4 5 6 10 ?_
  refine VC.cond rfl (fun hc2 => ?_) (fun hc2 => ?_)
  · -- T
    exact hc2.elim
  · -- F
    refine VC.skip ?_
    refine outN ?_
    refine VC.rs ?_
    refine VO.mv ?_
    refine VO.y rfl (.nilp rfl) ?_
    refine VO.y rfl (.fa rfl tst110 rfl) ?_
    obtain ⟨q3_E, q3_r0, q3_n0, _, q3_S, q3_0⟩ := openP_tableTable (x0 := d0) w1_0
    refine VO.inv _ (fun _ h => h.parts (i := 1) rfl q3_S [105, 104]) ?_
    refine VO.y rfl (.ld1 105 rfl tk108 rfl (cellsAt_one rfl rfl)) ?_
    refine VO.mv ?_
    have hgl6 := mGet_len (Ow.mapB q3_0) d1; simp only [maxLen] at hgl6
    refine VO.y rfl (.mlook 104 rfl rfl Tryz.underlying108 Tryz.underlying9 (zv_run (by kernel_rfl)) rfl (Ow.rd q3_0 (mle_refl _))) ?_
    refine VO.mv ?_
    refine VO.y rfl (.ext rfl rfl) ?_
    refine VO.y rfl (.ext rfl rfl) ?_
    refine VO.alloc 108 rfl tz113 (fun g7 => ?_)
    refine VO.store (k := 2) (c' := [str (((mGet d0 d1).getD ([], false)).1), Value.bool (((mGet d0 d1).getD ([], false)).2)]) 108 rfl rfl (.inl tk113) rfl rfl rfl rfl rfl ?_
    refine VO.as ?_
    refine VO.clsP 109 [105, 104] rfl (fun hg9 => (mkP_tableTable d0 hg9 q3_0)) (fun mc9 ho9 => ?_)
    refine VO.kp [109, 108, 0] [(109, mc9), (108, mone g7 (.cells [str (((mGet d0 d1).getD ([], false)).1), Value.bool (((mGet d0 d1).getD ([], false)).2)].toArray 113 (0, 0))), (0, mout (wm W) (m0))] ?_
    refine VO.k8 0 1 4 5 6 7 8 10 ?_
    refine VC.seq ?_
    refine VC.regD _ 7 [(0, true), (1, true), (2, true), (3, true), (4, true), (5, true), (6, true)] follows (by kernel_rfl) (fun _ h => h.sub [109, 108, 0]) ?_
    refine VD.y rfl rfl (.inl rfl) (.fa rfl tst113 rfl) ?_
    refine VD.y rfl rfl (.inl rfl) (.ld1 108 rfl tk9 rfl (cellsAt_one rfl rfl)) ?_
    refine VD.y rfl rfl (.inl rfl) (.mv rfl) ?_
    refine VD.y rfl rfl (.inl rfl) (.fa rfl tst113 rfl) ?_
    refine VD.y rfl rfl (.inl rfl) (.ld1 108 rfl tk4 rfl (cellsAt_one rfl rfl)) ?_
    refine VD.y rfl rfl (.inl rfl) (.as rfl) ?_
    refine VD.y rfl rfl (.inl rfl) (.as rfl) ?_
    refine VD.nil rfl ?_ rfl
    refine VO.as ?_
    refine VO.k8 0 1 4 5 6 7 8 10 ?_
    refine outN ?_
    refine VC.ret ?_
    refine ⟨_, _, res_run (rs := [.tmp 4, .tmp 5, .tmp 6]) rfl (.tmp rfl (.tmp rfl (.tmp rfl .nil))), fun W_ hI => out_of (l := [mc9]) hI [109] rfl rfl (mle_refl _) (fun hS_ => ?_)⟩
    dsimp only [packV]
    have hm0_ : (d0 : DtableTable) = d0 := by first | rfl | (simp [*]; done)
    refine ⟨?_, ?_⟩
    rotate_left
    · rw [hm0_]; exact (Ow.up ho9 (hS_.1 _ (.head _)))
    all_goals (first | rfl | (simp [*]; done))
def kOp (d : MapD) (k : List UInt8) : DOp := (((mGet d k).getD ([], false)).2, k, ((mGet d k).getD ([], false)).1)
def tL (d : MapD) : List DOp := (sortB (d.map (·.1))).map (kOp d)
/-- a table tells what the list tells -/
def tabIs (d : MapD) (L : List DOp) : Prop := opsUp L ∧ ∀ q, mGet d q = (findK L q).map opPair
theorem kl_iff : ∀ x y : List UInt8, kl x y ↔ x < y
  | [], [] => ⟨fun h => absurd h kl_nil, fun h => absurd h (List.lt_irrefl _)⟩
  | [], b :: y => ⟨fun _ => List.nil_lt_cons b y, fun _ => kl_nil_cons b y⟩
  | a :: x, [] => ⟨fun h => absurd h kl_nil, fun h => absurd h (List.not_lt_nil _)⟩
  | a :: x, b :: y => by rw [kl_cons, List.cons_lt_cons_iff, kl_iff x y, UInt8.lt_iff_toNat_lt]
theorem leB_iff {x y : List UInt8} : x ≤ y ↔ ¬ kl y x := by rw [kl_iff]; exact List.not_lt.symm
theorem sort_uniq {l L : List (List UInt8)} (hn : l.Nodup) (hL : L.Pairwise kl) (hm : ∀ x, x ∈ l ↔ x ∈ L) : sortB l = L := by
  have hLn : L.Nodup := hL.imp fun h => kl_ne h
  have hp : l.Perm L := (List.perm_ext_iff_of_nodup hn hLn).2 hm
  have h1 : sortB l = sortB L := mergeSort_of_perm hp
  rw [h1]
  exact List.mergeSort_of_pairwise (hL.imp fun h => by rw [decide_eq_true_eq, leB_iff]; exact kl_asymm h)
section
variable {d : MapD} {L t l : List DOp} {o x : DOp} {q : List UInt8}
theorem findK_cons : findK (x :: t) q = if x.2.1 = q then some x else findK t q := by
  unfold findK; by_cases h : x.2.1 = q <;> simp [List.find?_cons, h]
theorem findK_one : ∀ {t : List DOp}, opsUp t → findK (tOne t o) q = if o.2.1 = q then some o else findK t q
  | [], h => by rw [show tOne [] o = [o] from rfl, findK_cons]
  | x :: t, h => by
    by_cases hk : kl x.2.1 o.2.1
    · rw [show tOne (x :: t) o = x :: tOne t o from goOne_lt hk, findK_cons, findK_one (ups_tail h), findK_cons]
      by_cases h1 : x.2.1 = q
      · have h2 : ¬ o.2.1 = q := fun e => kl_ne hk (h1.trans e.symm)
        rw [if_pos h1, if_neg h2, if_pos h1]
      · rw [if_neg h1, if_neg h1]
    · by_cases hq : x.2.1 = o.2.1
      · rw [show tOne (x :: t) o = o :: t from goOne_eq h hq, findK_cons, findK_cons, hq]
        by_cases h1 : o.2.1 = q
        · rw [if_pos h1, if_pos h1]
        · rw [if_neg h1, if_neg h1, if_neg h1]
      · rw [show tOne (x :: t) o = o :: x :: t from goOne_gt h hk hq, findK_cons]
theorem sortB_len : (sortB (d.map (·.1))).length = d.length := by unfold sortB; rw [List.length_mergeSort, List.length_map]
theorem tL_len : (tL d).length = d.length := by unfold tL; rw [List.length_map, sortB_len]
theorem tabIs_nil : tabIs [] [] := ⟨ups_nil, fun _ => rfl⟩
theorem tabIs_one (h : tabIs d L) (hc : opCheck o = 0) : tabIs (mPutO d o) (tOne L o) := ⟨(tOne_up h.1 hc).1, fun q => by
  rw [findK_one h.1, show mPutO d o = mPut d o.2.1 (o.2.2, o.1) from rfl, get_put, h.2 q]
  by_cases e : o.2.1 = q
  · rw [if_pos e, if_pos e]; rfl
  · rw [if_neg e, if_neg e]⟩
theorem tabIs_fold : ∀ {l : List DOp} {d : MapD} {L : List DOp}, tabIs d L → (∀ o ∈ l, opCheck o = 0) → tabIs (l.foldl mPutO d) (l.foldl tOne L)
  | [], _, _, h, _ => h
  | o :: l, _, _, h, hc => tabIs_fold (l := l) (tabIs_one h (hc o (.head _))) fun x hx => hc x (.tail _ hx)
theorem mem_key : q ∈ d.map (·.1) ↔ (mGet d q).isSome := by
  unfold mGet
  rw [Option.isSome_map, List.find?_isSome, List.mem_map]
  constructor
  · rintro ⟨x, hx, rfl⟩; exact ⟨x, hx, by simp⟩
  · rintro ⟨x, hx, h⟩; exact ⟨x, hx, by simpa using h⟩
theorem findK_mem (h : opsUp L) (hx : x ∈ L) : findK L x.2.1 = some x := by
  induction L with
  | nil => cases hx
  | cons y L ih =>
    rw [findK_cons]
    rcases List.mem_cons.1 hx with rfl | hx
    · rw [if_pos rfl]
    · rw [if_neg fun e => kl_ne ((List.pairwise_cons.1 h.2).1 x hx) e, ih (ups_tail h) hx]
theorem mem_findK : q ∈ L.map (·.2.1) ↔ (findK L q).isSome := by
  unfold findK
  rw [List.find?_isSome, List.mem_map]
  constructor
  · rintro ⟨x, hx, rfl⟩; exact ⟨x, hx, by simp⟩
  · rintro ⟨x, hx, h⟩; exact ⟨x, hx, by simpa using h⟩
theorem tl_is (hn : (d.map (·.1)).Nodup) (h : tabIs d L) : tL d = L ∧ d.length = L.length := by
  have hk : sortB (d.map (·.1)) = L.map (·.2.1) := sort_uniq hn (List.pairwise_map.2 h.1.2) fun x => by
    rw [mem_key, mem_findK, h.2 x, Option.isSome_map]
  have h1 : tL d = L := by
    unfold tL; rw [hk, List.map_map]
    conv => rhs; rw [← List.map_id L]
    refine List.map_congr_left fun x hx => ?_
    show kOp d x.2.1 = x
    unfold kOp; rw [h.2, findK_mem h.1 hx]; rfl
  refine ⟨h1, ?_⟩
  have h2 : (tL d).length = d.length := by unfold tL sortB; rw [List.length_map, List.length_mergeSort, List.length_map]
  rw [← h2, h1]
end
def vsE (l : List DOp) (a : Int) (args : List Value) (mr : Mem) : Prop := 0 ≤ a ∧ a < l.length ∧ mr = mnil ∧ ∃ x, l[a.toNat]? = some x ∧ x.2.1.length ≤ maxLen ∧ x.2.2.length ≤ maxLen ∧ args = [.agg [.bool x.1, str x.2.1, str x.2.2].toArray]
def vsN (a : Int) : Int := a + 1
def vsD (l : List DOp) (a : Int) : Prop := (l.length : Int) ≤ a
def lvE (l : List DOp) (a : Int) (args : List Value) (mr : Mem) : Prop := 0 ≤ a ∧ a < (l.filter (·.1)).length ∧ mr = mnil ∧ ∃ x, (l.filter (·.1))[a.toNat]? = some x ∧ x.2.1.length ≤ maxLen ∧ x.2.2.length ≤ maxLen ∧ args = [str x.2.1, str x.2.2]
def lvD (l : List DOp) (a : Int) : Prop := ((l.filter (·.1)).length : Int) ≤ a
theorem vals1_ok {l : List DOp} {gc : Nat} {A : Option Addr} {c : Nat} {mL : Mem} (hL : Ow (.sl TOp) mL [.slice A l.length c] l) (hd : mdj (mone gc (.cells [(.slice A l.length c : Value)].toArray 34 (0, 0))) mL) (hlen : l.length ≤ 1000000000) :
    IterOk Tryz.prog 128 [.pointer (some ⟨gc, 0, none⟩)] (mun (mone gc (.cells [(.slice A l.length c : Value)].toArray 34 (0, 0))) mL) (vsE l) vsN 0 (vsD l) := by
  intro G M I X lp W g0 h0 hm hdj hy
  obtain ⟨lB, kB⟩ := Ow.rm hL
  have d1 : mdj (M g0) (mone gc (.cells [(.slice A l.length c : Value)].toArray 34 (0, 0))) := hdj.mono (mle_refl _) (mle_un_left _ _)
  have d2 : mdj (M g0) mL := hdj.mono (mle_refl _) (mle_un_right hd)
  refine CallR.ofX (n := 16) Tryz.func128 rfl rfl rfl hm ?_
  refine VX.parts 1 [1, 2, 3] (l := [M g0, mone gc (.cells [(.slice A l.length c : Value)].toArray 34 (0, 0)), mL]) rfl ⟨fun x hx => ?_, List.pairwise_cons.2 ⟨fun x hx => ?_, List.pairwise_cons.2 ⟨fun x hx => ?_, List.pairwise_singleton _ _⟩⟩⟩ ?_
  · simp only [List.mem_cons, List.not_mem_nil, or_false] at hx
    rcases hx with rfl | rfl | rfl
    · exact mle_un_left _ _
    · exact (mle_un_left _ _).trans (mle_un_right hdj)
    · exact (mle_un_right hd).trans (mle_un_right hdj)
  · simp only [List.mem_cons, List.not_mem_nil, or_false] at hx
    rcases hx with rfl | rfl
    · exact d1
    · exact d2
  · simp only [List.mem_cons, List.not_mem_nil, or_false] at hx
    subst hx; exact hd
  refine VX.rs ?_
  refine VO.y rfl (.ld1 2 rfl (by kernel_rfl) rfl (cellsAt_one rfl rfl)) ?_
  refine VO.y rfl (.lenS rfl tsl34) ?_
  refine VO.mv ?_
  refine VO.k5 0 1 5 6 7 ?_
  refine VX.block ?_
  refine VX.loop (G := Int × G) (fun s => [(0, .func (.yield lp) #[] #[]), (1, .pointer (some ⟨gc, 0, none⟩)), (5, .slice A l.length c), (6, .int .i64 (l.length : Int)), (7, .int .i64 s.1)]) (fun s => [(1, M s.2), (2, mone gc (.cells [(.slice A l.length c : Value)].toArray 34 (0, 0))), (3, mL), (0, mout (wm W) (mun (M g0) (mun (mone gc (.cells [(.slice A l.length c : Value)].toArray 34 (0, 0))) mL)))]) (fun s => I s.1 s.2 ∧ 0 ≤ s.1 ∧ s.1 ≤ l.length) (fun s => (l.length - s.1).toNat) ((0 : Int), g0) ⟨h0, by dsimp only; omega, by dsimp only; omega⟩ ⟨⟨rfl, rfl, rfl, rfl, rfl, trivial⟩, fun _ h => h.sub [1, 2, 3, 0]⟩ ?_
  rintro ⟨a, g⟩ ⟨hI, ha, hal⟩
  dsimp only at hI ha hal
  show VX _ _ _ _ _ _ _ [(0, .func (.yield lp) #[] #[]), (1, .pointer (some ⟨gc, 0, none⟩)), (5, .slice A l.length c), (6, .int .i64 (l.length : Int)), (7, .int .i64 a)] [(1, M g), (2, mone gc (.cells [(.slice A l.length c : Value)].toArray 34 (0, 0))), (3, mL), (0, mout (wm W) (mun (M g0) (mun (mone gc (.cells [(.slice A l.length c : Value)].toArray 34 (0, 0))) mL)))]
  refine VX.rs ?_
  refine VO.y rfl (.lss rfl rfl) ?_
  refine VO.k6 0 1 5 6 7 8 ?_
  refine VX.seq ?_
  refine VX.cond rfl (fun hc => ?_) (fun hc => ?_)
  · refine VX.skip (outN ?_)
    refine VX.seq (VX.block ?_)
    obtain ⟨x, hx⟩ : ∃ x, l[a.toNat]? = some x := ⟨_, List.getElem?_eq_getElem (by omega)⟩
    obtain ⟨gg, oo, ec, ea, hce, hre⟩ := (hL.rd (mle_refl _)).elem hx
    cases ea
    obtain ⟨rfl, q1, q2⟩ := open_Op (x0 := x.1) (x1 := x.2.1) (x2 := x.2.2) hre
    refine VX.rs ?_
    refine VO.y rfl (.ixI a.toNat rfl rfl tsl34 (by omega) (by omega)) ?_
    refine VO.y rfl (.ldA 3 rfl (by kernel_rfl) rfl hce) ?_
    refine VO.alloc 9 rfl (show tz Tryz.prog 64 = some [.bool false, str [], str []] by kernel_rfl) (fun gB => ?_)
    refine VO.store (k := 3) (c' := [.bool x.1, str x.2.1, str x.2.2]) 9 rfl rfl (.inl (by kernel_rfl)) rfl rfl rfl rfl rfl ?_
    refine VO.k6 0 1 5 6 7 4 ?_
    refine VX.seq ?_
    refine VX.regL _ (hix := ?_) (VL.pre (r := [2, 3]) 2 (by kernel_rfl) ?_)
    · kernel_rfl
    refine VO.mv ?_
    refine VO.y rfl (.ldA 9 rfl (by kernel_rfl) rfl (cellsAt_one (k := 3) (cs := [.bool x.1, str x.2.1, str x.2.2]) rfl rfl)) ?_
    refine VO.nil ?_
    refine VL.yield 1 rfl rfl (.inl rfl) rfl rfl rfl (fun W' hW => by have h_ := hy a g _ mnil W' hI ⟨ha, hc, rfl, x, hx, q1, q2, rfl⟩ ((hW.nilc 12).sub [0, 1, 12]).three; rw [mun_nil] at h_; exact h_) (fun v m' hv => ?_)
    obtain ⟨g', rfl, hv⟩ := hv
    rcases hv with ⟨rfl, hI'⟩ | ⟨rfl, hX⟩
    · refine VL.post 3 rfl (by kernel_rfl) ?_
      refine VO.y rfl (.not rfl) ?_
      refine VO.k6 0 1 5 6 7 14 ?_
      refine outN (VX.condF rfl ?_)
      refine VX.skip (outBN (outN ?_))
      refine VX.reg ?_
      refine VO.y rfl (.add (c := vsN a) rfl rfl rfl ⟨by unfold vsN; omega, by unfold vsN; omega⟩) ?_
      refine VO.mv ?_
      refine VO.nil ?_
      refine outN ⟨rfl, (vsN a, g'), ⟨hI', by unfold vsN; dsimp only; omega, by unfold vsN; dsimp only; omega⟩, by unfold vsN; dsimp only; omega, ⟨⟨rfl, rfl, rfl, rfl, rfl, trivial⟩, fun _ h => h.sub [1, 2, 3, 0]⟩⟩
    · refine VL.post 3 rfl (by kernel_rfl) ?_
      refine VO.y rfl (.not rfl) ?_
      refine VO.k6 0 1 5 6 7 14 ?_
      refine outN (VX.condT rfl ?_)
      refine VX.ret ?_
      refine outBR (outR (outR (outBR ?_)))
      refine ⟨_, _, res_run (rs := []) rfl .nil, fun W_ hI_ => out_of (l := [M g']) hI_ [1] rfl rfl (mle_refl _) (fun hS_ => ⟨g', mun_nil _, .inl hX⟩)⟩
  · refine VX.exit (outE (outE (outBB ?_)))
    refine ⟨_, _, res_run (rs := []) rfl .nil, fun W_ hI_ => out_of (l := [M g]) hI_ [1] rfl rfl (mle_refl _) (fun hS_ => ⟨g, mun_nil _, .inr ⟨a, hI, by unfold vsD; omega⟩⟩)⟩
theorem fnOk104 : fnOk Tryz.prog 104 = true := by kernel_rfl
theorem fnOk105 : fnOk Tryz.prog 105 = true := by kernel_rfl
theorem tsl57 : tsl Tryz.prog 57 = some (9, 1, 16) := by kernel_rfl
theorem tLen_ok (W : World) {m0 : Mem} (hm : mle (m0) (wm W)) {g0 : Nat} {d0 : DtableTable} (h0 : Ow (.ptr TtableTable) m0 [.pointer (some ⟨g0, 0, none⟩)] (g0, d0)) : CallR Tryz.prog 41 [.pointer (some ⟨g0, 0, none⟩)] W (m0) (fun v m' => v = .int .i64 ((d0.length : Nat) : Int) ∧ Ow (.ptr TtableTable) m' [.pointer (some ⟨g0, 0, none⟩)] (g0, d0)) := by
  refine CallR.ofB (n := 10) hm Tryz.func41 rfl rfl rfl ?_
  refine VC.rs ?_
  refine VO.as ?_
  refine VO.k2 0 2 ?_
  refine VC.seq ?_
  refine VC.rs ?_
  refine VO.mv ?_
  refine VO.call 1 rfl fnOk56 rfl rfl (fun W hW => tNone_ok W (hW.at (i := 1) rfl) h0) (fun v1 m1 hv1 => ?_)
  obtain ⟨rfl, w1_0⟩ := hv1
  refine VO.k3 0 2 4 ?_
  refine VC.cond rfl (fun hc2 => ?_) (fun hc2 => ?_)
  · -- T
    exact hc2.elim
  · -- F
    refine VC.skip ?_
    refine outN ?_
    refine VC.rs ?_
    refine VO.mv ?_
    refine VO.y rfl (.nilp rfl) ?_
    refine VO.y rfl (.fa rfl tst110 rfl) ?_
    obtain ⟨q3_E, q3_r0, q3_n0, _, q3_S, q3_0⟩ := openP_tableTable (x0 := d0) w1_0
    refine VO.inv _ (fun _ h => h.parts (i := 1) rfl q3_S [105, 104]) ?_
    refine VO.y rfl (.ld1 105 rfl tk108 rfl (cellsAt_one rfl rfl)) ?_
    refine VO.y rfl (.mlen 104 rfl Tryz.underlying108 rfl (Ow.rd q3_0 (mle_refl _))) ?_
    refine VO.as ?_
    refine VO.clsP 106 [105, 104] rfl (fun hg6 => (mkP_tableTable d0 hg6 q3_0)) (fun mc6 ho6 => ?_)
    refine VO.kp [106, 0] [(106, mc6), (0, mout (wm W) (m0))] ?_
    refine VO.k3 0 2 4 ?_
    refine VC.ret ?_
    refine ⟨_, _, res_run (rs := [.tmp 2]) rfl (.tmp rfl .nil), fun W_ hI => out_of (l := [mc6]) hI [106] rfl rfl (mle_refl _) (fun hS_ => ?_)⟩
    dsimp only [packV]
    have hm0_ : (d0 : DtableTable) = d0 := by first | rfl | (simp [*]; done)
    refine ⟨?_, ?_⟩
    rotate_left
    · rw [hm0_]; exact (Ow.up ho6 (hS_.1 _ (.head _)))
    all_goals (first | rfl | (simp [*]; done))
theorem tList_ok (W : World) {m0 : Mem} (hm : mle (m0) (wm W)) {g0 : Nat} {d0 : DtableTable} (h0 : Ow (.ptr TtableTable) m0 [.pointer (some ⟨g0, 0, none⟩)] (g0, d0)) (e0 : d0.length ≤ 1000000) : CallR Tryz.prog 58 [.pointer (some ⟨g0, 0, none⟩)] W (m0) (fun v m' => ∃ (s0 : Value), ∃ (p0 : Mem), ∃ (p1 : Mem), v = s0 ∧ Seps m' [p0, p1] ∧ Ow (.sl TOp) p0 [s0] (tL d0) ∧ Ow (.ptr TtableTable) p1 [.pointer (some ⟨g0, 0, none⟩)] (g0, d0)) := by
  refine CallR.ofB (n := 37) hm Tryz.func58 rfl rfl rfl ?_
  refine VC.rs ?_
  refine VO.as ?_
  refine VO.k2 0 2 ?_
  refine VC.seq ?_
  refine VC.rs ?_
  refine VO.mv ?_
  refine VO.call 1 rfl fnOk56 rfl rfl (fun W hW => tNone_ok W (hW.at (i := 1) rfl) h0) (fun v1 m1 hv1 => ?_)
  obtain ⟨rfl, w1_0⟩ := hv1
  refine VO.k3 0 2 8 ?_
  refine VC.cond rfl (fun hc2 => ?_) (fun hc2 => ?_)
  · -- T
    exact hc2.elim
  · -- F
    refine VC.skip ?_
    refine outN ?_
    refine VC.rs ?_
    refine VO.as ?_
    refine VO.kp [1, 0] [(1, m1), (0, mout (wm W) (m0))] ?_
    refine VO.k4 0 2 3 8 ?_
    refine VC.seq ?_
    refine VC.rs ?_
    refine VO.mv ?_
    refine VO.y rfl (.nilp rfl) ?_
    refine VO.y rfl (.fa rfl tst110 rfl) ?_
    obtain ⟨q3_E, q3_r0, q3_n0, _, q3_S, q3_0⟩ := openP_tableTable (x0 := d0) w1_0
    refine VO.inv _ (fun _ h => h.parts (i := 1) rfl q3_S [105, 104]) ?_
    refine VO.y rfl (.ld1 105 rfl tk108 rfl (cellsAt_one rfl rfl)) ?_
    refine VO.callN 106 rfl fnOk105 rfl (fun W_ hW_ => keys_ok W_ (some q3_r0)) (fun v6 m6 hv6 => ?_)
    obtain ⟨gk6, rfl, rfl⟩ := hv6
    refine VO.callN 107 rfl fnOk104 rfl (fun W_ hW_ => sortedK W_ (hW_.at (i := 106) rfl) (hW_.at (i := 104) rfl) (Ow.rd q3_0 (mle_refl _)) bd) (fun v7 m7 hv7 => ?_)
    obtain ⟨A7, c7, rfl, l7, k7⟩ := hv7.slice
    simp only [maxLen] at k7
    have hsl := sortB_len (d := d0)
    refine VO.y rfl (.lenS rfl tsl57) ?_
    refine VO.mv ?_
    refine VO.clsP 108 [105, 104] rfl (fun hg8 => (mkP_tableTable d0 hg8 q3_0)) (fun mc8 ho8 => ?_)
    refine VO.k7 0 2 3 8 14 15 16 ?_
    refine VC.block ?_
    refine VC.inv ((109, mnil) :: _) (fun _ h => h.nilc 109) ?_
    refine VC.loop (G := Nat × (List DOp) × (Option Addr) × Nat × Mem × Mem) (fun g => [(3, Value.slice (g.2.2.1) ((g.2.1).length) ((g.2.2.2.1))), (16, Value.int .i64 ((((g.1) : Nat) : Int))), (0, Value.pointer (some ⟨g0, 0, none⟩)), (2, Value.slice none (0) (0)), (8, Value.bool (decide (False))), (14, Value.slice A7 ((sortB (d0.map (·.1))).length) (c7)), (15, Value.int .i64 ((((sortB (d0.map (·.1))).length : Nat) : Int)))]) (fun g => [(109, (g.2.2.2.2.1)), (108, (g.2.2.2.2.2)), (107, m7), (0, mout (wm W) (m0))]) (fun g => ((g.1) ≤ (sortB (d0.map (·.1))).length) ∧ ((g.2.1) = ((sortB (d0.map (·.1))).take (g.1)).map (kOp d0)) ∧ (OwnL TOp (g.2.2.2.2.1) mnil (.slice (g.2.2.1) (g.2.1).length (g.2.2.2.1)) (g.2.1)) ∧ (Ow (.ptr TtableTable) (g.2.2.2.2.2) [.pointer (some ⟨g0, 0, none⟩)] (g0, d0))) (fun g => (sortB (d0.map (·.1))).length - (g.1)) (0, [], none, 0, mnil, mc8) (⟨by omega, by rfl, (OwnL.nil TOp mnil mnil), ho8⟩) ⟨⟨rfl, rfl, rfl, rfl, rfl, rfl, rfl, trivial⟩, fun _ h => h.sub [109, 108, 107, 0]⟩ ?_
    rintro ⟨k, out, out_A, out_c, out_m, t_m⟩ ⟨hk, ho, h_out, h_t⟩
    replace hk : k ≤ (sortB (d0.map (·.1))).length := hk
    replace ho : out = ((sortB (d0.map (·.1))).take k).map (kOp d0) := ho
    replace h_out : OwnL TOp out_m mnil (.slice out_A out.length out_c) out := h_out
    replace h_t : Ow (.ptr TtableTable) t_m [.pointer (some ⟨g0, 0, none⟩)] (g0, d0) := h_t
    show VC _ _ _ _ _ [(3, Value.slice out_A (out.length) (out_c)), (16, Value.int .i64 (((k : Nat) : Int))), (0, Value.pointer (some ⟨g0, 0, none⟩)), (2, Value.slice none (0) (0)), (8, Value.bool (decide (False))), (14, Value.slice A7 ((sortB (d0.map (·.1))).length) (c7)), (15, Value.int .i64 ((((sortB (d0.map (·.1))).length : Nat) : Int)))] [(109, out_m), (108, t_m), (107, m7), (0, mout (wm W) (m0))]
    have l_out : out.length ≤ out_c := by obtain ⟨_, _, he, hl, _⟩ := h_out.slice; simp only [Value.slice.injEq] at he; omega
    have k_out : out_c ≤ 9223372036854775807 := by obtain ⟨_, _, he, _, hl⟩ := h_out.slice; simp only [Value.slice.injEq, maxLen] at he hl; omega
    have hlo : out.length = k := by rw [ho, List.length_map, List.length_take]; omega
    refine VC.rs ?_
    refine VO.y rfl (.lss rfl rfl) ?_
    refine VO.k8 0 2 3 8 14 15 16 17 ?_
    refine VC.seq ?_
    refine VC.cond rfl (fun hc10 => ?_) (fun hc10 => ?_)
    · -- FT
      refine VC.skip ?_
      refine outN ?_
      refine VC.seq ?_
      refine VC.block ?_
      refine VC.rs ?_
      obtain ⟨x11, hx11⟩ : ∃ z_, ((sortB (d0.map (·.1))))[k]? = some z_ := ⟨_, List.getElem?_eq_getElem bd⟩
      obtain ⟨gg11, oo11, ec11, ea11, hce11, hre11⟩ := (Ow.rd hv7 (mle_refl _)).elem hx11
      cases ea11
      obtain ⟨rfl, q11⟩ := hre11
      have q11' := q11; simp only [maxLen] at q11'
      refine VO.y rfl (.ixI k rfl rfl tsl57 rfl bd) ?_
      refine VO.y rfl (.ld1 107 rfl tk9 rfl hce11) ?_
      refine VO.as ?_
      refine VO.kp [109, 108, 107, 0] [(109, out_m), (108, t_m), (107, m7), (0, mout (wm W) (m0))] ?_
      refine VO.k9 0 2 3 5 8 14 15 16 17 ?_
      refine VC.rs ?_
      refine VO.mv ?_
      refine VO.y rfl (.nilp rfl) ?_
      refine VO.y rfl (.fa rfl tst110 rfl) ?_
      obtain ⟨q12_E, q12_r0, q12_n0, _, q12_S, q12_0⟩ := openP_tableTable (x0 := d0) h_t
      refine VO.inv _ (fun _ h => h.parts (i := 108) rfl q12_S [114, 113]) ?_
      refine VO.y rfl (.ld1 114 rfl tk108 rfl (cellsAt_one rfl rfl)) ?_
      refine VO.mv ?_
      have hgl15 := mGet_len (Ow.mapB q12_0) x11; simp only [maxLen] at hgl15
      refine VO.y rfl (.mlook1 113 rfl rfl Tryz.underlying108 Tryz.underlying9 (zv_run (by kernel_rfl)) rfl (Ow.rd q12_0 (mle_refl _))) ?_
      refine VO.alloc 117 rfl tz113 (fun g16 => ?_)
      refine VO.store (k := 2) (c' := [str (((mGet d0 x11).getD ([], false)).1), Value.bool (((mGet d0 x11).getD ([], false)).2)]) 117 rfl rfl (.inl tk113) rfl rfl rfl rfl rfl ?_
      refine VO.clsP 118 [114, 113] rfl (fun hg18 => (mkP_tableTable d0 hg18 q12_0)) (fun mc18 ho18 => ?_)
      refine VO.k10 0 2 3 5 6 8 14 15 16 17 ?_
      refine VC.reg ?_
      refine VO.mv ?_
      refine VO.y rfl (.fa rfl tst113 rfl) ?_
      refine VO.y rfl (.ld1 117 rfl tk4 rfl (cellsAt_one rfl rfl)) ?_
      refine VO.mv ?_
      refine VO.y rfl (.fa rfl tst113 rfl) ?_
      refine VO.y rfl (.ld1 117 rfl tk9 rfl (cellsAt_one rfl rfl)) ?_
      refine VO.y rfl (.bst (cs := [Value.bool (((mGet d0 x11).getD ([], false)).2), str (x11), str (((mGet d0 x11).getD ([], false)).1)]) rfl tst64 tz64 rfl) ?_
      refine VO.bsl (cs := [Value.bool (((mGet d0 x11).getD ([], false)).2), str (x11), str (((mGet d0 x11).getD ([], false)).1)]) 120 rfl rfl tsl34 tz64 rfl rfl (fun g19 => ?_)
      obtain ⟨mo21, cs21, hM21, hA21, hC21⟩ := h_out
      refine VO.app 109 rfl rfl rfl tsl34 tz64 rfl rfl hM21 hA21 (.row 120 _ _ _ 1 1 _ _ Tryz.underlying34 rfl (cellsAt_one rfl rfl)) (by simp [Value.oneCell']) bdm bd (by decide) (fun v21 m21 hN21 => ?_)
      have ho21 : OwnL TOp m21 mnil v21 (out ++ [(((mGet d0 x11).getD ([], false)).2, x11, ((mGet d0 x11).getD ([], false)).1)]) := OwnL.one hC21 hN21 (mk_Op (m := _) (((mGet d0 x11).getD ([], false)).2) x11 (((mGet d0 x11).getD ([], false)).1) bdm bdm)
      obtain ⟨A21, c21, rfl, l21, k21⟩ := ho21.slice
      simp only [maxLen] at k21
      refine VO.as ?_
      refine VO.k10 0 2 3 5 6 8 14 15 16 17 ?_
      refine outBN ?_
      refine outN ?_
      refine VC.reg ?_
      refine VO.y rfl (.add (c := ((k + 1 : Nat) : Int)) rfl rfl (by omega) ⟨bd, bd⟩) ?_
      refine VO.mv ?_
      refine VO.kp [118, 117, 109, 107, 0] [(118, mc18), (117, mone g16 (.cells [str (((mGet d0 x11).getD ([], false)).1), Value.bool (((mGet d0 x11).getD ([], false)).2)].toArray 113 (0, 0))), (109, m21), (107, m7), (0, mout (wm W) (m0))] ?_
      refine VO.k10 0 2 3 5 6 8 14 15 16 17 ?_
      exact outN ⟨⟨k + 1, out ++ [(((mGet d0 x11).getD ([], false)).2, x11, ((mGet d0 x11).getD ([], false)).1)], A21, c21, m21, mc18⟩, ⟨by omega, by (rw [ho, take_one ‹(sortB (d0.map (·.1)))[k]? = some _›, List.map_append]; rfl), ho21, ho18⟩, bd, ⟨⟨rfl, rfl, rfl, rfl, rfl, rfl, rfl, trivial⟩, fun _ h => Inv.sub (Inv.num h 118 108 rfl) [109, 108, 107, 0]⟩⟩
    · -- FF
      refine VC.exit ?_
      refine outE ?_
      refine outE ?_
      refine outBB ?_
      refine outN ?_
      refine VC.rs ?_
      refine VO.mv ?_
      refine VO.as ?_
      refine VO.kp [109, 108, 107, 0] [(109, out_m), (108, t_m), (107, m7), (0, mout (wm W) (m0))] ?_
      refine VO.k8 0 2 3 8 14 15 16 17 ?_
      refine VC.ret ?_
      refine ⟨_, _, res_run (rs := [.tmp 2]) rfl (.tmp rfl .nil), fun W_ hI => out_of (l := [out_m, t_m]) hI [109, 108] rfl rfl (mle_refl _) (fun hS_ => ?_)⟩
      dsimp only [packV]
      have he0 : (tL d0 : Ty.Den (.sl TOp)) = out := by first | rfl | ((rw [ho, List.take_of_length_le (by omega)]; rfl))
      have hm0_ : (d0 : DtableTable) = d0 := by first | rfl | ((rw [ho, List.take_of_length_le (by omega)]; rfl))
      refine ⟨Value.slice out_A (out.length) (out_c), muns [out_m], muns [t_m], ?_, ?_, ?_, ?_⟩
      rotate_left
      · exact Seps.grp (ls := [[out_m], [t_m]]) hS_
      · rw [he0]; exact (Ow.up (OwnL.ow h_out rfl) ((Seps.self hS_ (List.Sublist.cons_cons _ (List.Sublist.cons _ List.Sublist.slnil))).1 _ (.head _)))
      · rw [hm0_]; exact (Ow.up h_t ((Seps.self hS_ (List.Sublist.cons _ (List.Sublist.cons_cons _ List.Sublist.slnil))).1 _ (.head _)))
      all_goals (first | rfl | (simp [*]; done))
theorem vals_ok (W : World) {m0 : Mem} (hm : mle m0 (wm W)) {v0 : Value} {d0 : List DOp} (h0 : Ow (.sl TOp) m0 [v0] d0) (e0 : d0.length ≤ 1000000) : CallR Tryz.prog 87 [v0] W m0 (fun v m' => ∃ caps, v = .func (.func 128) #[] (List.toArray caps) ∧ IterOk Tryz.prog 128 caps m' (vsE d0) vsN 0 (vsD d0)) := by
  obtain ⟨A0, c0, rfl, l0, k0⟩ := h0.slice
  refine CallR.ofB (n := 4) hm Tryz.func87 rfl rfl rfl ?_
  refine VC.rs ?_
  refine VO.box (cs := [(.slice A0 d0.length c0 : Value)]) 101 rfl rfl rfl (fun g1 => ?_)
  refine VO.as ?_
  refine VO.k1 1 ?_
  refine VC.rs ?_
  refine VO.y rfl (.mkf rfl) ?_
  refine VO.as ?_
  refine VO.k1 2 ?_
  refine VC.ret ?_
  refine ⟨_, _, res_run (rs := [.tmp 2]) rfl (.tmp rfl .nil), fun W_ hI => out_of (l := [mone g1 (.cells [(.slice A0 d0.length c0 : Value)].toArray 34 (0, 0)), m0]) hI [101, 1] rfl rfl (mle_refl _) (fun hS_ => ⟨[.pointer (some ⟨g1, 0, none⟩)], rfl, ?_⟩)⟩
  show IterOk _ _ _ (mun _ (mun m0 mnil)) _ _ _ _
  rw [mun_nil]
  exact vals1_ok h0 ((List.pairwise_cons.1 hS_.2).1 _ (.head _)) (by omega)
theorem tAll_ok (W : World) {m0 : Mem} (hm : mle (m0) (wm W)) {g0 : Nat} {d0 : DtableTable} (h0 : Ow (.ptr TtableTable) m0 [.pointer (some ⟨g0, 0, none⟩)] (g0, d0)) (e0 : d0.length ≤ 1000000) : CallR Tryz.prog 44 [.pointer (some ⟨g0, 0, none⟩)] W m0 (fun v m' => ∃ caps p0 p1, v = .func (.func 128) #[] (List.toArray caps) ∧ Seps m' [p0, p1] ∧ IterOk Tryz.prog 128 caps p0 (vsE (tL d0)) vsN 0 (vsD (tL d0)) ∧ Ow (.ptr TtableTable) p1 [.pointer (some ⟨g0, 0, none⟩)] (g0, d0)) := by
  refine CallR.ofB (n := 6) hm Tryz.func44 rfl rfl rfl ?_
  refine VC.rs ?_
  refine VO.as ?_
  refine VO.k2 0 2 ?_
  refine VC.rs ?_
  refine VO.mv ?_
  refine VO.call 1 rfl (by kernel_rfl) rfl rfl (fun W hW => tList_ok W (hW.at (i := 1) rfl) h0 e0) (fun v1 m1 hv1 => ?_)
  obtain ⟨s1, p0, p1, rfl, hS1, f1, w1⟩ := hv1
  refine VO.inv _ (fun _ h => h.parts (i := 1) rfl hS1 [10, 11]) ?_
  refine VO.call 10 rfl (by kernel_rfl) rfl rfl (fun W hW => vals_ok W (hW.at (i := 10) rfl) f1 (by rw [tL_len]; exact e0)) (fun v2 m2 hv2 => ?_)
  obtain ⟨caps, rfl, hit⟩ := hv2
  refine VO.as ?_
  refine VO.k2 0 2 ?_
  refine VC.ret ?_
  refine ⟨_, _, res_run (rs := [.tmp 2]) rfl (.tmp rfl .nil), fun W_ hI => out_of (l := [m2, p1]) hI [10, 11] rfl rfl (mle_refl _) (fun hS_ => ⟨caps, m2, p1, rfl, hS_, hit, w1⟩)⟩
abbrev TstoreStore : Ty := .pair (.ptr TtableTable) (.pair (.ptr TrunRuns) (.sl TCommit))
abbrev DstoreStore := (Nat × DtableTable) × (Nat × DrunRuns) × (List DCommit)
theorem open_storeStore {m : Mem} {cs : List Value} {x0 : Nat × DtableTable} {x1 : Nat × DrunRuns} {x2 : List DCommit} (h : Rd TstoreStore m cs (x0, x1, x2)) : ∃ (A2 : Option Addr), ∃ (c2 : Nat), cs = [(.pointer (some ⟨x0.1, 0, none⟩) : Value), .pointer (some ⟨x1.1, 0, none⟩), .slice A2 x2.length c2] ∧ Rd (.ptr TtableTable) m [.pointer (some ⟨x0.1, 0, none⟩)] x0 ∧ Rd (.ptr TrunRuns) m [.pointer (some ⟨x1.1, 0, none⟩)] x1 ∧ Rd (.sl TCommit) m [.slice A2 x2.length c2] x2 := by
  obtain ⟨p1, q1, rfl, u1, w1⟩ := Rd.pair h
  have z2 := u1
  obtain ⟨rfl, _⟩ := u1
  obtain ⟨p3, q3, rfl, u3, w3⟩ := Rd.pair w1
  have z4 := u3
  obtain ⟨rfl, _⟩ := u3
  have z5 := w3
  obtain ⟨A5, c5, rfl, _⟩ := Rd.slice1 w3
  exact ⟨A5, c5, rfl, z2, z4, z5⟩
theorem mk_storeStore {m : Mem} (x0 : Nat × DtableTable) (x1 : Nat × DrunRuns) (x2 : List DCommit) {v0 : Value} (h0 : Rd (.ptr TtableTable) m [v0] x0) {v1 : Value} (h1 : Rd (.ptr TrunRuns) m [v1] x1) {v2 : Value} (h2 : Rd (.sl TCommit) m [v2] x2) : Rd TstoreStore m [v0, v1, v2] (x0, x1, x2) := (Rd.mkPair (c1 := [_]) h0 (Rd.mkPair (c1 := [_]) h1 h2))
theorem openO_storeStore {m : Mem} {cs : List Value} {x0 : Nat × DtableTable} {x1 : Nat × DrunRuns} {x2 : List DCommit} (h : Ow TstoreStore m cs (x0, x1, x2)) : ∃ (A2 : Option Addr), ∃ (c2 : Nat), ∃ (n0 : Mem), ∃ (n1 : Mem), ∃ (n2 : Mem), cs = [(.pointer (some ⟨x0.1, 0, none⟩) : Value), .pointer (some ⟨x1.1, 0, none⟩), .slice A2 x2.length c2] ∧ Seps m [n0, n1, n2] ∧ Ow (.ptr TtableTable) n0 [.pointer (some ⟨x0.1, 0, none⟩)] x0 ∧ Ow (.ptr TrunRuns) n1 [.pointer (some ⟨x1.1, 0, none⟩)] x1 ∧ Ow (.sl TCommit) n2 [.slice A2 x2.length c2] x2 := by
  obtain ⟨p1, q1, ma1, mb1, rfl, dj1, la1, lb1, u1, w1⟩ := Ow.pair h
  have z2 := u1
  obtain ⟨rfl, _⟩ := u1
  obtain ⟨p3, q3, ma3, mb3, rfl, dj3, la3, lb3, u3, w3⟩ := Ow.pair w1
  have z4 := u3
  obtain ⟨rfl, _⟩ := u3
  have z5 := w3
  obtain ⟨A5, c5, rfl, _⟩ := Ow.slice1 w3
  exact ⟨A5, c5, _, _, _, rfl, (Seps.app dj1 la1 lb1 (Seps.one (mle_refl _)) (Seps.app dj3 la3 lb3 (Seps.one (mle_refl _)) (Seps.one (mle_refl _)))), z2, z4, z5⟩
theorem mkO_storeStore {m : Mem} {n0 n1 n2 : Mem} (x0 : Nat × DtableTable) (x1 : Nat × DrunRuns) (x2 : List DCommit) (hS : Seps m [n0, n1, n2]) {v0 : Value} (h0 : Ow (.ptr TtableTable) n0 [v0] x0) {v1 : Value} (h1 : Ow (.ptr TrunRuns) n1 [v1] x1) {v2 : Value} (h2 : Ow (.sl TCommit) n2 [v2] x2) : Ow TstoreStore m [v0, v1, v2] (x0, x1, x2) := by
  obtain ⟨e1, la1, lb1, Sa1, Sb1⟩ := Seps.cut (l := [n0]) (r := [n1, n2]) hS
  obtain ⟨e2, la2, lb2, Sa2, Sb2⟩ := Seps.cut (l := [n1]) (r := [n2]) Sb1
  exact (Ow.mkPair (c1 := [_]) e1 la1 lb1 (h0.up (Sa1.1 _ (.head _))) (Ow.mkPair (c1 := [_]) e2 la2 lb2 (h1.up (Sa2.1 _ (.head _))) (h2.up (Sb2.1 _ (.head _)))))
theorem openP_storeStore {m : Mem} {cs : List Value} {g : Nat} {x0 : Nat × DtableTable} {x1 : Nat × DrunRuns} {x2 : List DCommit} (h : Ow (.ptr TstoreStore) m cs (g, (x0, x1, x2))) : ∃ (E : TypeId), ∃ (A2 : Option Addr), ∃ (c2 : Nat), ∃ (n0 : Mem), ∃ (n1 : Mem), ∃ (n2 : Mem), cs = [.pointer (some ⟨g, 0, none⟩)] ∧ Seps m [mone g (.cells [(.pointer (some ⟨x0.1, 0, none⟩) : Value), .pointer (some ⟨x1.1, 0, none⟩), .slice A2 x2.length c2].toArray E (0, 0)), n0, n1, n2] ∧ Ow (.ptr TtableTable) n0 [.pointer (some ⟨x0.1, 0, none⟩)] x0 ∧ Ow (.ptr TrunRuns) n1 [.pointer (some ⟨x1.1, 0, none⟩)] x1 ∧ Ow (.sl TCommit) n2 [.slice A2 x2.length c2] x2 := by
  obtain ⟨rfl, rc, E, m1, hd, l0, l1, h1⟩ := Ow.opnP h
  obtain ⟨A2, c2, n0, n1, n2, rfl, hS, f0, f1, f2⟩ := openO_storeStore h1
  exact ⟨E, A2, c2, n0, n1, n2, rfl, Seps.app hd l0 l1 (Seps.one (mle_refl _)) hS, f0, f1, f2⟩
theorem mkP_storeStore {m : Mem} {g : Nat} {E : TypeId} {n0 n1 n2 : Mem}{v0 : Value}{v1 : Value}{v2 : Value} (x0 : Nat × DtableTable) (x1 : Nat × DrunRuns) (x2 : List DCommit) (hS : Seps m [mone g (.cells [v0, v1, v2].toArray E (0, 0)), n0, n1, n2]) (h0 : Ow (.ptr TtableTable) n0 [v0] x0) (h1 : Ow (.ptr TrunRuns) n1 [v1] x1) (h2 : Ow (.sl TCommit) n2 [v2] x2) : Ow (.ptr TstoreStore) m [.pointer (some ⟨g, 0, none⟩)] (g, (x0, x1, x2)) :=
  Ow.clsP hS fun hS => mkO_storeStore x0 x1 x2 hS h0 h1 h2
/-- what commits leave -/
def sT (r : List DCommit) : MapD := r.foldl (fun t c => (mApply t c.2.2).1) []
/-- what runs leave -/
def sOld (l : List DRun) : MapD := l.foldl (fun t x => (mApply t x.2.2).1) []
/-- the commits may stand behind the runs -/
abbrev okS (l : List DRun) (r : List DCommit) : Prop := (cFollows 1 (endR l) r).1 = 0
def sGet (l : List DRun) (r : List DCommit) (q : Bytes) : Bytes × Bool := match mGet (sT r) q with
  | some p => p
  | none => ((getR l q).1, (getR l q).2.2)
/-- two rising lists as one: of one key the younger op -/
def mrgO (o : DOp) (k : List DOp → List DOp) : List DOp → List DOp
  | [] => o :: k []
  | x :: t => if kl x.2.1 o.2.1 then x :: mrgO o k t else if x.2.1 = o.2.1 then o :: k t else o :: k (x :: t)
def mrg : List DOp → List DOp → List DOp
  | [], old => old
  | o :: y, old => mrgO o (mrg y) old
def sList (l : List DRun) (r : List DCommit) : List DOp := mrg (tL (sT r)) (tL (sOld l))
def sApply (l : List DRun) (r : List DCommit) (c : DCommit) : List DCommit × Int :=
  if ¬ cCheck c = 0 then (r, cCheck c) else if ¬ c.2.1 - 1 = endR l + r.length ∨ (0 < (r.length : Int) ∧ c.1 < lastOr 1 r) then (r, 15) else (r ++ [c], 0)
abbrev SSt := USt × List DCommit
def sCut (l : List DRun) (r : List DCommit) (u : Int) : List DCommit := r.take (u - endR l).toNat
def sRun (l : List DRun) (r : List DCommit) (u : Int) : DRun := (endR l + 1, u, tL (sT (sCut l r u)))
def sFlush (d : DDisk) (br : Bool) (l : List DRun) (r : List DCommit) (u : Int) : SSt × Int :=
  if u < endR l ∨ endR l + (r.length : Int) < u then (((d, br, l), r), 2) else if u = endR l then (((d, br, l), r), 0)
  else if (1024 : Int) < ((sT (sCut l r u)).length : Int) then (((d, br, l), r), 3)
  else if ¬ (uFlush d br l (sRun l r u)).2 = 0 then (((uFlush d br l (sRun l r u)).1, r), (uFlush d br l (sRun l r u)).2)
  else (((uFlush d br l (sRun l r u)).1, r.drop (u - endR l).toNat), 0)
section
variable {d : DDisk} {br : Bool} {l : List DRun} {r : List DCommit} {c x : DCommit} {u : Int} {k : Nat} {q : Bytes} {t : MapD} {y : List DOp}
theorem sT_snoc : sT (r ++ [c]) = (mApply (sT r) c.2.2).1 := by unfold sT; rw [List.foldl_append]; rfl
theorem sT_next (hx : r[k]? = some x) : sT (r.take (k + 1)) = (mApply (sT (r.take k)) x.2.2).1 := by rw [take_one hx, sT_snoc]
theorem sOld_next {x : DRun} (hx : l[k]? = some x) : sOld (l.take (k + 1)) = (mApply (sOld (l.take k)) x.2.2).1 := by unfold sOld; rw [take_one hx, List.foldl_append]; rfl
theorem mPut_len (t : MapD) (k : List UInt8) (v : List UInt8 × Bool) : (mPut t k v).length ≤ t.length + 1 := by
  induction t with
  | nil => simp [mPut]
  | cons x t ih => rw [mPut]; split <;> simp only [List.length_cons] <;> omega
theorem mfold_len : ∀ (y : List DOp) (t : MapD), (y.foldl mPutO t).length ≤ t.length + y.length
  | [], t => by simp
  | o :: y, t => by
    have h1 := mPut_len t o.2.1 (o.2.2, o.1)
    have h2 := mfold_len y (mPutO t o)
    rw [List.foldl_cons, List.length_cons]
    unfold mPutO at h2 ⊢
    omega
theorem mApply_len (t : MapD) (y : List DOp) : (mApply t y).1.length ≤ t.length + y.length := by
  unfold mApply; split
  · exact mfold_len y t
  · dsimp only; omega
theorem sT_go : ∀ {r : List DCommit} {t : MapD} {m : Nat}, (∀ c ∈ r, c.2.2.length ≤ m) → (r.foldl (fun t c => (mApply t c.2.2).1) t).length ≤ t.length + m * r.length
  | [], t, m, _ => by simp
  | c :: r, t, m, h => by
    have h1 := mApply_len t c.2.2
    have h2 := sT_go (r := r) (t := (mApply t c.2.2).1) fun x hx => h x (.tail _ hx)
    have h3 := h c (.head _)
    rw [List.foldl_cons, List.length_cons, Nat.mul_succ]
    omega
theorem okS_all (h : okS l r) : ∀ c ∈ r, cCheck c = 0 := cFollowsAt_ok h
theorem okS_ops (h : okS l r) : ∀ c ∈ r, c.2.2.length ≤ 8 := fun c hc => batchCheck_ok (cCheck_ok (okS_all h c hc)).2.2.2.2
theorem sT_len (h : okS l r) : (sT r).length ≤ 8 * r.length := by
  have := sT_go (r := r) (t := []) (okS_ops h); simpa [sT] using this
theorem sT_lenT (h : okS l r) (n : Nat) : (sT (r.take n)).length ≤ 8 * r.length := by
  have := sT_go (r := r.take n) (t := []) fun c hc => okS_ops h c (List.mem_of_mem_take hc)
  have h2 := List.length_take (i := n) (l := r)
  unfold sT; simp only [List.length_nil] at this; omega
theorem sOld_go : ∀ {l : List DRun} {t : MapD} {m : Nat}, (∀ c ∈ l, c.2.2.length ≤ m) → (l.foldl (fun t x => (mApply t x.2.2).1) t).length ≤ t.length + m * l.length
  | [], t, m, _ => by simp
  | c :: r, t, m, h => by
    have h1 := mApply_len t c.2.2
    have h2 := sOld_go (l := r) (t := (mApply t c.2.2).1) fun x hx => h x (.tail _ hx)
    have h3 := h c (.head _)
    rw [List.foldl_cons, List.length_cons, Nat.mul_succ]
    omega
theorem sOld_len (h : okU l) : (sOld l).length ≤ 1024 * l.length := by
  have := sOld_go (l := l) (t := []) (okU_room h); simpa [sOld] using this
theorem sGet_no (e : t = sT r) (h : (mGet t q).isSome = false) : sGet l r q = ((getR l q).1, (getR l q).2.2) := by
  subst e; unfold sGet; cases e : mGet (sT r) q <;> simp_all
theorem sGet_yes (e : t = sT r) (h : (mGet t q).isSome = true) : sGet l r q = (((mGet t q).getD ([], false)).1, ((mGet t q).getD ([], false)).2) := by
  subst e; unfold sGet; cases e : mGet (sT r) q <;> simp_all
theorem sApply_chk (h : ¬ cCheck c = 0) : sApply l r c = (r, cCheck c) := if_pos h
theorem sApply_ord (h : ¬ ¬ cCheck c = 0) (h2 : ¬ c.2.1 - 1 = endR l + r.length ∨ (0 < (r.length : Int) ∧ c.1 < lastOr 1 r)) : sApply l r c = (r, 15) := by unfold sApply; rw [if_neg h, if_pos h2]
theorem sApply_ok (h : ¬ ¬ cCheck c = 0) (h2 : ¬ ¬ c.2.1 - 1 = endR l + r.length) (h3 : ¬ (0 < (r.length : Int) ∧ c.1 < lastOr 1 r)) : sApply l r c = (r ++ [c], 0) := by
  unfold sApply; rw [if_neg h, if_neg (fun q => q.elim h2 h3)]
theorem follows_weak : ∀ {r : List DCommit} {e e' n i : Int}, (cFollowsAt e n i r).1 = 0 → e' ≤ e → ∀ j, (cFollowsAt e' n j r).1 = 0
  | [], _, _, _, _, h, _, _ => h
  | c :: r, _, _, _, _, h, he, j => by
    obtain ⟨h1, h2, h3, h4⟩ := follows_cons h
    exact follows_mk h1 h2 (by omega) (follows_idx _ h4)
theorem okS_snoc (h : okS l r) (hc : ¬ ¬ cCheck c = 0) (h2 : ¬ ¬ c.2.1 - 1 = endR l + r.length) (h3 : ¬ (0 < (r.length : Int) ∧ c.1 < lastOr 1 r)) : okS l (r ++ [c]) := by
  have h4 := cCheck_ok (Decidable.not_not.1 hc)
  refine follows_app (j := 0) h (follows_mk (Decidable.not_not.1 hc) (by omega) ?_ rfl)
  rcases Nat.eq_zero_or_pos r.length with h5 | h5
  · rw [List.eq_nil_of_length_eq_zero h5]; exact h4.1
  · by_cases h6 : c.1 < lastOr 1 r
    · exact absurd ⟨by omega, h6⟩ h3
    · omega
theorem sApply_len : (sApply l r c).1.length ≤ r.length + 1 := by
  unfold sApply; split
  · dsimp only; omega
  · split
    · dsimp only; omega
    · simp
theorem sFlush_arg (h : u < endR l ∨ endR l + (r.length : Int) < u) : sFlush d br l r u = (((d, br, l), r), 2) := if_pos h
theorem sFlush_same (h : ¬ u < endR l) (h1 : ¬ endR l + (r.length : Int) < u) (h2 : u = endR l) : sFlush d br l r u = (((d, br, l), r), 0) := by unfold sFlush; rw [if_neg (fun q => q.elim h h1), if_pos h2]
theorem sFlush_long (h : ¬ u < endR l) (h1 : ¬ endR l + (r.length : Int) < u) (h2 : ¬ u = endR l) (ht : t = sT (sCut l r u)) (h3 : (1024 : Int) < (t.length : Int)) : sFlush d br l r u = (((d, br, l), r), 3) := by
  unfold sFlush; rw [if_neg (fun q => q.elim h h1), if_neg h2, if_pos (by rw [← ht]; exact h3)]
theorem sFlush_bad (h : ¬ u < endR l) (h1 : ¬ endR l + (r.length : Int) < u) (h2 : ¬ u = endR l) (ht : t = sT (sCut l r u)) (h3 : ¬ (1024 : Int) < (t.length : Int)) (h4 : ¬ (uFlush d br l (endR l + 1, u, tL t)).2 = 0) :
    sFlush d br l r u = (((uFlush d br l (endR l + 1, u, tL t)).1, r), (uFlush d br l (endR l + 1, u, tL t)).2) := by
  subst ht
  unfold sFlush; rw [if_neg (fun q => q.elim h h1), if_neg h2, if_neg h3, if_pos (show ¬ (uFlush d br l (sRun l r u)).2 = 0 from h4)]; rfl
theorem sFlush_good (h : ¬ u < endR l) (h1 : ¬ endR l + (r.length : Int) < u) (h2 : ¬ u = endR l) (ht : t = sT (sCut l r u)) (h3 : ¬ (1024 : Int) < (t.length : Int)) (h4 : ¬ ¬ (uFlush d br l (endR l + 1, u, tL t)).2 = 0) :
    sFlush d br l r u = (((uFlush d br l (endR l + 1, u, tL t)).1, r.drop (u - endR l).toNat), 0) := by
  subst ht
  unfold sFlush; rw [if_neg (fun q => q.elim h h1), if_neg h2, if_neg h3, if_neg (show ¬ ¬ (uFlush d br l (sRun l r u)).2 = 0 from h4)]; rfl
end
theorem fnOk24 : fnOk Tryz.prog 24 = true := by kernel_rfl
theorem fnOk40 : fnOk Tryz.prog 40 = true := by kernel_rfl
theorem fnOk88 : fnOk Tryz.prog 88 = true := by kernel_rfl
theorem tk27 : tk Tryz.prog 27 = some none := by kernel_rfl
theorem tk37 : tk Tryz.prog 37 = some none := by kernel_rfl
theorem tk38 : tk Tryz.prog 38 = some none := by kernel_rfl
theorem tst40 : tst Tryz.prog 40 = some [(0, 1), (1, 1), (2, 1)] := by kernel_rfl
theorem uIs_ok (W : World) {l_ : List DRun} {br_ : Bool} {D_ : DdiskDisk} {gd_ : Nat} {m0 : Mem} (hm : mle (m0) (wm W)) {g0 : Nat} (h0 : Ow (.ptr TrunRuns) m0 [.pointer (some ⟨g0, 0, none⟩)] (g0, ((gd_, D_), br_, l_))) : CallR Tryz.prog 47 [.pointer (some ⟨g0, 0, none⟩)] W (m0) (fun v m' => v = .bool (decide (True)) ∧ Ow (.ptr TrunRuns) m' [.pointer (some ⟨g0, 0, none⟩)] (g0, ((gd_, D_), br_, l_))) := by
  refine CallR.ofB (n := 6) hm Tryz.func47 rfl rfl rfl ?_
  refine VC.rs ?_
  refine VO.as ?_
  refine VO.k2 0 2 ?_
  refine VC.rs ?_
  refine VO.mv ?_
  refine VO.call 1 rfl fnOk55 rfl rfl (fun W hW => uNone_ok W (hW.at (i := 1) rfl) h0) (fun v1 m1 hv1 => ?_)
  try dsimp only at hv1
  obtain ⟨rfl, w1_0⟩ := hv1
  refine VO.y rfl (.notD rfl) ?_
  refine VO.as ?_
  refine VO.k2 0 2 ?_
  refine VC.ret ?_
  refine ⟨_, _, res_run (rs := [.tmp 2]) rfl (.tmp rfl .nil), fun W_ hI => out_of (l := [m1]) hI [1] rfl rfl (mle_refl _) (fun hS_ => ?_)⟩
  dsimp only [packV]
  have hm0_ : (((gd_, D_), br_, l_) : DrunRuns) = ((gd_, D_), br_, l_) := by first | rfl | (simp [*]; done)
  refine ⟨?_, ?_⟩
  rotate_left
  · rw [hm0_]; exact (Ow.up w1_0 (hS_.1 _ (.head _)))
  all_goals (first | rfl | (first | rfl | simp))
theorem sNone_ok (W : World) {r_ : List DCommit} {l_ : List DRun} {br_ : Bool} {D_ : DdiskDisk} {gd_ : Nat} {gu_ : Nat} {T_ : DtableTable} {gt_ : Nat} {m0 : Mem} (hm : mle (m0) (wm W)) {g0 : Nat} (h0 : Ow (.ptr TstoreStore) m0 [.pointer (some ⟨g0, 0, none⟩)] (g0, ((gt_, T_), (gu_, ((gd_, D_), br_, l_)), r_))) : CallR Tryz.prog 40 [.pointer (some ⟨g0, 0, none⟩)] W (m0) (fun v m' => v = .bool (decide (False)) ∧ Ow (.ptr TstoreStore) m' [.pointer (some ⟨g0, 0, none⟩)] (g0, ((gt_, T_), (gu_, ((gd_, D_), br_, l_)), r_))) := by
  refine CallR.ofB (n := 12) hm Tryz.func40 rfl rfl rfl ?_
  refine VC.rs ?_
  refine VO.as ?_
  refine VO.k2 0 2 ?_
  refine VC.rs ?_
  refine VO.mv ?_
  refine VO.y rfl (.pnil rfl rfl Tryz.underlying23 rfl) ?_
  refine VO.mv ?_
  refine VO.gy rfl ⟨_, rfl, rfl⟩ (.mv rfl) ?_
  refine VO.gy rfl ⟨_, rfl, rfl⟩ (.nilp rfl) ?_
  refine VO.gy rfl ⟨_, rfl, rfl⟩ (.fa rfl tst40 rfl) ?_
  obtain ⟨q1_E, q1_A2, q1_c2, q1_n0, q1_n1, q1_n2, _, q1_S, q1_0, q1_1, q1_2⟩ := openP_storeStore (x0 := (gt_, T_)) (x1 := (gu_, ((gd_, D_), br_, l_))) (x2 := r_) h0
  dsimp only at q1_0
  dsimp only at q1_1
  have q1_r2 := q1_2.rm
  refine VO.inv _ (fun _ h => h.parts (i := 1) rfl q1_S [105, 102, 103, 104]) ?_
  refine VO.gy rfl ⟨_, rfl, rfl⟩ (.ld1 105 rfl tk38 rfl (cellsAt_one rfl rfl)) ?_
  refine VO.gy rfl ⟨_, rfl, rfl⟩ (.pnil rfl rfl Tryz.underlying38 rfl) ?_
  refine VO.y rfl (.pF rfl rfl) ?_
  refine VO.as ?_
  refine VO.clsP 106 [105, 102, 103, 104] rfl (fun hg6 => (mkP_storeStore (gt_, T_) (gu_, ((gd_, D_), br_, l_)) r_ hg6 q1_0 q1_1 q1_2)) (fun mc6 ho6 => ?_)
  refine VO.k2 0 2 ?_
  refine VC.ret ?_
  refine ⟨_, _, res_run (rs := [.tmp 2]) rfl (.tmp rfl .nil), fun W_ hI => out_of (l := [mc6]) hI [106] rfl rfl (mle_refl _) (fun hS_ => ?_)⟩
  dsimp only [packV]
  have hm0_ : (((gt_, T_), (gu_, ((gd_, D_), br_, l_)), r_) : DstoreStore) = ((gt_, T_), (gu_, ((gd_, D_), br_, l_)), r_) := by first | rfl | (simp [*]; done)
  refine ⟨?_, ?_⟩
  rotate_left
  · rw [hm0_]; exact (Ow.up ho6 (hS_.1 _ (.head _)))
  all_goals (first | rfl | (rfl))
theorem sEnd_ok (W : World) {r_ : List DCommit} {l_ : List DRun} {br_ : Bool} {D_ : DdiskDisk} {gd_ : Nat} {gu_ : Nat} {T_ : DtableTable} {gt_ : Nat} {m0 : Mem} (hm : mle (m0) (wm W)) {g0 : Nat} (h0 : Ow (.ptr TstoreStore) m0 [.pointer (some ⟨g0, 0, none⟩)] (g0, ((gt_, T_), (gu_, ((gd_, D_), br_, l_)), r_))) (e0 : okU l_) (e1 : r_.length ≤ 2000000) : CallR Tryz.prog 16 [.pointer (some ⟨g0, 0, none⟩)] W (m0) (fun v m' => v = .int .i64 (endR l_ + ((r_.length : Nat) : Int)) ∧ Ow (.ptr TstoreStore) m' [.pointer (some ⟨g0, 0, none⟩)] (g0, ((gt_, T_), (gu_, ((gd_, D_), br_, l_)), r_))) := by
  have hll := okU_len e0
  refine CallR.ofB (n := 16) hm Tryz.func16 rfl rfl rfl ?_
  refine VC.rs ?_
  refine VO.as ?_
  refine VO.k2 0 2 ?_
  refine VC.seq ?_
  refine VC.rs ?_
  refine VO.mv ?_
  refine VO.call 1 rfl fnOk40 rfl rfl (fun W hW => sNone_ok W (hW.at (i := 1) rfl) h0) (fun v1 m1 hv1 => ?_)
  try dsimp only at hv1
  obtain ⟨rfl, w1_0⟩ := hv1
  refine VO.k3 0 2 4 ?_
  refine VC.cond rfl (fun hc2 => ?_) (fun hc2 => ?_)
  · -- T
    exact hc2.elim
  · -- F
    refine VC.skip ?_
    refine outN ?_
    refine VC.seq ?_
    obtain ⟨q3_E, q3_A2, q3_c2, q3_n0, q3_n1, q3_n2, _, q3_S, q3_0, q3_1, q3_2⟩ := openP_storeStore (x0 := (gt_, T_)) (x1 := (gu_, ((gd_, D_), br_, l_))) (x2 := r_) w1_0
    dsimp only at q3_0
    dsimp only at q3_1
    have q3_r2 := q3_2.rm
    refine VC.inv _ (fun _ h => h.parts (i := 1) rfl q3_S [107, 104, 105, 106]) ?_
    refine VC.regD _ 10 [(0, true), (1, true), (2, true), (3, true), (5, true), (6, true), (7, true), (8, true), (9, true), (4, false)] follows (by kernel_rfl) (fun _ h => h.sub [107, 104, 106, 0]) ?_
    refine VD.y rfl rfl (.inl rfl) (.mv rfl) ?_
    refine VD.y rfl rfl (.inl rfl) (.nilp rfl) ?_
    refine VD.y rfl rfl (.inl rfl) (.fa rfl tst40 rfl) ?_
    refine VD.y rfl rfl (.inl rfl) (.ld1 107 rfl tk38 rfl (cellsAt_one rfl rfl)) ?_
    refine VD.y rfl rfl (.inl rfl) (.mv rfl) ?_
    refine VD.y rfl rfl (.inl rfl) (.nilp rfl) ?_
    refine VD.y rfl rfl (.inl rfl) (.fa rfl tst40 rfl) ?_
    refine VD.y rfl rfl (.inl rfl) (.ld1 107 rfl tk27 rfl (cellsAt_one rfl rfl)) ?_
    refine VD.y rfl rfl (.inl rfl) (.lenS rfl tsl27) ?_
    refine VD.call 105 rfl rfl (.inl rfl) fnOk21 rfl rfl (fun _ _ h => h.sub [107, 104, 106, 0]) (fun W hW => uEnd_ok W (hW.at (i := 105) rfl) q3_1 (by assumption)) (fun v8 m8 hv8 => ?_)
    try dsimp only at hv8
    obtain ⟨rfl, w8_0⟩ := hv8
    refine VD.nil rfl ?_ rfl
    refine VO.y rfl (.add rfl rfl rfl ⟨bd, bd⟩) ?_
    refine VO.as ?_
    refine VO.clsP 109 [107, 104, 105, 106] rfl (fun hg9 => (mkP_storeStore (gt_, T_) (gu_, ((gd_, D_), br_, l_)) r_ hg9 q3_0 w8_0 q3_2)) (fun mc9 ho9 => ?_)
    refine VO.kp [109, 0] [(109, mc9), (0, mout (wm W) (m0))] ?_
    refine VO.k3 0 2 4 ?_
    refine outN ?_
    refine VC.ret ?_
    refine ⟨_, _, res_run (rs := [.tmp 2]) rfl (.tmp rfl .nil), fun W_ hI => out_of (l := [mc9]) hI [109] rfl rfl (mle_refl _) (fun hS_ => ?_)⟩
    dsimp only [packV]
    have hm0_ : (((gt_, T_), (gu_, ((gd_, D_), br_, l_)), r_) : DstoreStore) = ((gt_, T_), (gu_, ((gd_, D_), br_, l_)), r_) := by first | rfl | (simp [*]; done)
    refine ⟨?_, ?_⟩
    rotate_left
    · rw [hm0_]; exact (Ow.up ho9 (hS_.1 _ (.head _)))
    all_goals (first | rfl | (simp [*]; done))
theorem sRest_ok (W : World) {r_ : List DCommit} {l_ : List DRun} {br_ : Bool} {D_ : DdiskDisk} {gd_ : Nat} {gu_ : Nat} {T_ : DtableTable} {gt_ : Nat} {m0 : Mem} (hm : mle (m0) (wm W)) {g0 : Nat} (h0 : Ow (.ptr TstoreStore) m0 [.pointer (some ⟨g0, 0, none⟩)] (g0, ((gt_, T_), (gu_, ((gd_, D_), br_, l_)), r_))) : CallR Tryz.prog 12 [.pointer (some ⟨g0, 0, none⟩)] W (m0) (fun v m' => v = .int .i64 ((r_.length : Nat) : Int) ∧ Ow (.ptr TstoreStore) m' [.pointer (some ⟨g0, 0, none⟩)] (g0, ((gt_, T_), (gu_, ((gd_, D_), br_, l_)), r_))) := by
  refine CallR.ofB (n := 10) hm Tryz.func12 rfl rfl rfl ?_
  refine VC.rs ?_
  refine VO.as ?_
  refine VO.k2 0 2 ?_
  refine VC.seq ?_
  refine VC.rs ?_
  refine VO.mv ?_
  refine VO.call 1 rfl fnOk40 rfl rfl (fun W hW => sNone_ok W (hW.at (i := 1) rfl) h0) (fun v1 m1 hv1 => ?_)
  try dsimp only at hv1
  obtain ⟨rfl, w1_0⟩ := hv1
  refine VO.k3 0 2 4 ?_
  refine VC.cond rfl (fun hc2 => ?_) (fun hc2 => ?_)
  · -- T
    exact hc2.elim
  · -- F
    refine VC.skip ?_
    refine outN ?_
    refine VC.rs ?_
    refine VO.mv ?_
    refine VO.y rfl (.nilp rfl) ?_
    refine VO.y rfl (.fa rfl tst40 rfl) ?_
    obtain ⟨q3_E, q3_A2, q3_c2, q3_n0, q3_n1, q3_n2, _, q3_S, q3_0, q3_1, q3_2⟩ := openP_storeStore (x0 := (gt_, T_)) (x1 := (gu_, ((gd_, D_), br_, l_))) (x2 := r_) w1_0
    dsimp only at q3_0
    dsimp only at q3_1
    have q3_r2 := q3_2.rm
    refine VO.inv _ (fun _ h => h.parts (i := 1) rfl q3_S [107, 104, 105, 106]) ?_
    refine VO.y rfl (.ld1 107 rfl tk27 rfl (cellsAt_one rfl rfl)) ?_
    refine VO.y rfl (.lenS rfl tsl27) ?_
    refine VO.as ?_
    refine VO.clsP 108 [107, 104, 105, 106] rfl (fun hg8 => (mkP_storeStore (gt_, T_) (gu_, ((gd_, D_), br_, l_)) r_ hg8 q3_0 q3_1 q3_2)) (fun mc8 ho8 => ?_)
    refine VO.kp [108, 0] [(108, mc8), (0, mout (wm W) (m0))] ?_
    refine VO.k3 0 2 4 ?_
    refine VC.ret ?_
    refine ⟨_, _, res_run (rs := [.tmp 2]) rfl (.tmp rfl .nil), fun W_ hI => out_of (l := [mc8]) hI [108] rfl rfl (mle_refl _) (fun hS_ => ?_)⟩
    dsimp only [packV]
    have hm0_ : (((gt_, T_), (gu_, ((gd_, D_), br_, l_)), r_) : DstoreStore) = ((gt_, T_), (gu_, ((gd_, D_), br_, l_)), r_) := by first | rfl | (simp [*]; done)
    refine ⟨?_, ?_⟩
    rotate_left
    · rw [hm0_]; exact (Ow.up ho8 (hS_.1 _ (.head _)))
    all_goals (first | rfl | (simp [*]; done))
theorem sTake_ok (W : World) {r_ : List DCommit} {l_ : List DRun} {br_ : Bool} {D_ : DdiskDisk} {gd_ : Nat} {gu_ : Nat} {T_ : DtableTable} {gt_ : Nat} {m0 : Mem} (hm : mle (m0) (wm W)) {g0 : Nat} (h0 : Ow (.ptr TstoreStore) m0 [.pointer (some ⟨g0, 0, none⟩)] (g0, ((gt_, T_), (gu_, ((gd_, D_), br_, l_)), r_))) {v1 : List Value} {d1 : DCommit} (h1 : Rd TCommit (mout (wm W) (m0)) v1 d1) (e0 : T_ = sT r_) (e1 : r_.length ≤ 2000000) (e2 : d1.2.2.length ≤ 8) : CallR Tryz.prog 45 [.pointer (some ⟨g0, 0, none⟩), .agg v1.toArray] W (m0) (fun v m' => v = .tuple #[] ∧ Ow (.ptr TstoreStore) m' [.pointer (some ⟨g0, 0, none⟩)] (g0, ((gt_, (sT (r_ ++ [d1]))), (gu_, ((gd_, D_), br_, l_)), r_ ++ [d1]))) := by
  obtain ⟨p1_A2, p1_c2, rfl, p1_0, p1_1, p1_2⟩ := open_Commit (x0 := d1.1) (x1 := d1.2.1) (x2 := d1.2.2) h1
  simp only [inK] at p1_0
  simp only [inK] at p1_1
  have p1_r2 := Rd.room p1_2
  refine CallR.ofB (n := 22) hm Tryz.func45 rfl rfl rfl ?_
  refine VC.rs ?_
  refine VO.box (cs := [Value.int .i64 (d1.1), Value.int .i64 (d1.2.1), Value.slice p1_A2 (d1.2.2.length) (p1_c2)]) 102 rfl rfl rfl (fun g1 => ?_)
  refine VO.k3 0 1 3 ?_
  refine VC.seq ?_
  obtain ⟨q3_E, q3_A2, q3_c2, q3_n0, q3_n1, q3_n2, _, q3_S, q3_0, q3_1, q3_2⟩ := openP_storeStore (x0 := (gt_, T_)) (x1 := (gu_, ((gd_, D_), br_, l_))) (x2 := r_) h0
  dsimp only at q3_0
  dsimp only at q3_1
  have q3_r2 := q3_2.rm
  refine VC.inv _ (fun _ h => h.parts (i := 1) rfl q3_S [107, 104, 105, 106]) ?_
  refine VC.regD _ 9 [(0, true), (1, true), (2, true), (3, true), (4, true), (5, true), (6, false), (7, false), (8, false)] follows (by kernel_rfl) (fun _ h => h.sub [107, 104, 105, 102, 0]) ?_
  refine VD.y rfl rfl (.inl rfl) (.mv rfl) ?_
  refine VD.y rfl rfl (.inl rfl) (.mv rfl) ?_
  refine VD.y rfl rfl (.inl rfl) (.nilp rfl) ?_
  refine VD.y rfl rfl (.inl rfl) (.fa rfl tst40 rfl) ?_
  refine VD.y rfl rfl (.inl rfl) (.ld1 107 rfl tk27 rfl (cellsAt_one rfl rfl)) ?_
  refine VD.y rfl rfl (.inl rfl) (.ldA 102 rfl tk36 rfl (cellsAt_one rfl rfl)) ?_
  refine VD.callN 108 rfl rfl (.inl rfl) fnOk88 rfl (fun _ h => h.sub [107, 104, 105, 102, 0]) (fun W hW => cCopy_ok W (Rd.mono h1 (hW.at (i := 0) rfl)) bd) (fun v8 m8 hv8 => ?_)
  obtain ⟨s8_0, rfl, f8_0⟩ := hv8
  obtain ⟨q8_0_A2, q8_0_c2, q8_0_n2, rfl, q8_0_S, q8_0_0, q8_0_1, q8_0_2⟩ := openO_Commit (x0 := d1.1) (x1 := d1.2.1) (x2 := d1.2.2) f8_0
  simp only [inK] at q8_0_0
  simp only [inK] at q8_0_1
  have q8_0_r2 := q8_0_2.rm
  refine VD.inv _ (fun _ h => h.parts (i := 108) rfl q8_0_S [109]) ?_
  refine VD.bsl (cs := [Value.int .i64 (d1.1), Value.int .i64 (d1.2.1), Value.slice q8_0_A2 (d1.2.2.length) (q8_0_c2)]) 111 rfl rfl rfl tsl27 tz36 rfl rfl (fun _ h => h.sub [107, 104, 105, 102, 0]) (fun g10 => ?_)
  refine VD.appO (e := TCommit) 106 109 111 rfl rfl rfl rfl tsl27 tz36 rfl rfl rfl rfl q3_2 (show Ow TCommit _ _ d1 from (mkO_Commit d1.1 d1.2.1 d1.2.2 (Seps.one (mle_refl _)) bdk bdk (OwnL.ow (Ow.ownl q8_0_2 rfl mnil) rfl))) Tryz.underlying27 (cellsAt_one rfl rfl) bdm bd (by decide) (fun _ _ h => h.sub [107, 104, 105, 102, 0]) (fun v12 m12 ho12 => ?_)
  obtain ⟨A12, c12, rfl, l12, k12⟩ := ho12.slice
  simp only [maxLen] at k12
  refine VD.nil rfl ?_ rfl
  refine VO.y rfl (.nilp rfl) ?_
  refine VO.y rfl (.fa rfl tst40 rfl) ?_
  refine VO.store (k := 1) (c' := [Value.pointer (some ⟨gt_, 0, none⟩), Value.pointer (some ⟨gu_, 0, none⟩), Value.slice A12 ((r_ ++ [d1]).length) (c12)]) 107 rfl rfl (.inr ⟨tk27, rfl⟩) rfl rfl rfl rfl rfl ?_
  refine VO.clsP 113 [107, 104, 105, 106] rfl (fun hg13 => (mkP_storeStore (gt_, T_) (gu_, ((gd_, D_), br_, l_)) (r_ ++ [d1]) hg13 q3_0 q3_1 ho12)) (fun mc13 ho13 => ?_)
  refine VO.k3 0 1 3 ?_
  refine outN ?_
  obtain ⟨q14_E, q14_A2, q14_c2, q14_n0, q14_n1, q14_n2, _, q14_S, q14_0, q14_1, q14_2⟩ := openP_storeStore (x0 := (gt_, T_)) (x1 := (gu_, ((gd_, D_), br_, l_))) (x2 := r_ ++ [d1]) ho13
  dsimp only at q14_0
  dsimp only at q14_1
  have q14_r2 := q14_2.rm
  refine VC.inv _ (fun _ h => h.parts (i := 113) rfl q14_S [118, 115, 116, 117]) ?_
  refine VC.regD _ 6 [(0, true), (1, true), (2, true), (3, true), (4, true), (5, true)] follows (by kernel_rfl) (fun _ h => h.sub [118, 115, 116, 117, 111, 102, 0]) ?_
  refine VD.y rfl rfl (.inl rfl) (.mv rfl) ?_
  refine VD.y rfl rfl (.inl rfl) (.nilp rfl) ?_
  refine VD.y rfl rfl (.inl rfl) (.fa rfl tst40 rfl) ?_
  refine VD.y rfl rfl (.inl rfl) (.ld1 118 rfl tk37 rfl (cellsAt_one rfl rfl)) ?_
  refine VD.y rfl rfl (.inl rfl) (.fa rfl tst36 rfl) ?_
  refine VD.y rfl rfl (.inl rfl) (.ld1 102 rfl tk34 rfl (cellsAt_one rfl rfl)) ?_
  refine VD.nil rfl ?_ rfl
  refine VO.call 115 rfl fnOk24 rfl rfl (fun W hW => tApply_ok W (hW.at (i := 115) rfl) q14_0 (Rd.mono p1_2 (hW.out (i := 115) (j := 0) rfl rfl))) (fun v19 m19 hv19 => ?_)
  obtain ⟨rfl, w19_0⟩ := hv19
  refine VO.clsP 120 [118, 115, 116, 117] rfl (fun hg20 => (mkP_storeStore (gt_, (mApply T_ d1.2.2).1) (gu_, ((gd_, D_), br_, l_)) (r_ ++ [d1]) hg20 w19_0 q14_1 q14_2)) (fun mc20 ho20 => ?_)
  refine VO.kp [120, 102, 0] [(120, mc20), (102, mone g1 (.cells [Value.int .i64 (d1.1), Value.int .i64 (d1.2.1), Value.slice p1_A2 (d1.2.2.length) (p1_c2)].toArray 36 (0, 0))), (0, mout (wm W) (m0))] ?_
  refine VO.k3 0 1 3 ?_
  refine ⟨_, _, res_run (rs := []) rfl .nil, fun W_ hI => out_of (l := [mc20]) hI [120] rfl rfl (mle_refl _) (fun hS_ => ?_)⟩
  dsimp only [packV]
  have hm0_ : (((gt_, (sT (r_ ++ [d1]))), (gu_, ((gd_, D_), br_, l_)), r_ ++ [d1]) : DstoreStore) = ((gt_, (mApply T_ d1.2.2).1), (gu_, ((gd_, D_), br_, l_)), r_ ++ [d1]) := by first | rfl | ((rw [sT_snoc, e0]; done))
  refine ⟨?_, ?_⟩
  rotate_left
  · rw [hm0_]; exact (Ow.up ho20 (hS_.1 _ (.head _)))
  all_goals (first | rfl | (simp [*]; done))
end Go.Proofs.YtonbpfncmlijnaaGreat
