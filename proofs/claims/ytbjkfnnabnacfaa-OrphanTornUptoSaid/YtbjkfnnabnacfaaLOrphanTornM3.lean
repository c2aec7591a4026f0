/- Part 3 of the proof of LOrphanTorn: what it needs of the library, the walks and the plain laws. Conditions: those named in each theorem. -/
import Derived.Test.YtbjkfnnabnacfaaLOrphanTornM2
namespace Go.Proofs.Ytbjkfnnabnacfaa
section
set_option linter.unusedVariables false
set_option linter.unusedSimpArgs false
set_option maxRecDepth 4000
theorem fnOk121 : fnOk Try.prog 121 = true := by kernel_rfl
theorem fnOk54 : fnOk Try.prog 54 = true := by kernel_rfl
theorem tz135 : tz Try.prog 135 = some [.slice none 0 0, .int .i64 0, .bool false] := by kernel_rfl
theorem bRead_ok (W : World) {v0 : Value} {d0 : List UInt8} (h0 : Rd (.sl .byte) (wm W) [v0] d0) : CallR Try.prog 112 [v0] W (mnil) (fun v m' => ∃ (s0 : Value), v = .tuple #[s0, .int .i64 ((bRead d0).2.1), .int .i64 ((bRead d0).2.2)] ∧ Ow (.sl TOp) m' [s0] ((bRead d0).1)) := by
  obtain ⟨A0, c0, rfl, l0, k0⟩ := h0.slice
  simp only [maxLen] at k0
  refine CallR.ofA (n := 48) Try.func112 rfl rfl rfl ?_
  refine VC.rs ?_
  refine VO.as ?_
  refine VO.as ?_
  refine VO.as ?_
  refine VO.k4 0 2 3 4 ?_
  refine VC.rs ?_
  refine VO.mv ?_
  refine VO.y rfl (.bst (cs := [Value.slice A0 (d0.length) (c0), Value.int .i64 (0), Value.bool false]) rfl tst135 tz135 rfl) ?_
  refine VO.box (cs := [Value.slice A0 (d0.length) (c0), Value.int .i64 (0), Value.bool false]) 102 rfl rfl rfl (fun g1 => ?_)
  refine VO.as ?_
  refine VO.k5 0 2 3 4 5 ?_
  refine VC.rs ?_
  refine VO.as ?_
  refine VO.keep [102, 0] [(102, mone g1 (.cells [Value.slice A0 (d0.length) (c0), Value.int .i64 (0), Value.bool false].toArray 135 (0, 0))), (0, wm W)] (by kernel_rfl) ?_
  refine VO.k6 0 2 3 4 5 6 ?_
  refine VC.seq ?_
  refine VC.rs ?_
  refine VO.mv ?_
  refine VO.call 102 rfl fnOk120 rfl rfl (fun W hW => bNum_ok W (d0 := (d0, 0, false)) (hW.at (i := 102) rfl) (Rd.mono h0 (hW.out (i := 102) (j := 0) rfl rfl)) bdk 8 bdk (by first | assumption | exact ⟨by omega, by omega⟩ | exact ⟨by (simp; done), by (simp; done)⟩)) (fun v3 m3 hv3 => ?_)
  try dsimp only at hv3
  obtain ⟨rfl, rfl, w3_0_1⟩ := hv3
  have hfa4 := (rNum_ok (B := d0) (m := 8) (s := (0, false)) (by first | assumption | exact ⟨by omega, by omega⟩ | exact ⟨by (simp; done), by (simp; done)⟩) (by omega)).1
  have hfa5 := (rNum_ok (B := d0) (m := 8) (s := (0, false)) (by first | assumption | exact ⟨by omega, by omega⟩ | exact ⟨by (simp; done), by (simp; done)⟩) (by omega)).1.1
  have hfa6 := (rNum_ok (B := d0) (m := 8) (s := (0, false)) (by first | assumption | exact ⟨by omega, by omega⟩ | exact ⟨by (simp; done), by (simp; done)⟩) (by omega)).1.2
  have hfa7 := (rNum_ok (B := d0) (m := 8) (s := (0, false)) (by first | assumption | exact ⟨by omega, by omega⟩ | exact ⟨by (simp; done), by (simp; done)⟩) (by omega)).2
  simp only [inK] at w3_0_1
  refine VO.as ?_
  refine VO.k7 0 2 3 4 5 6 7 ?_
  refine VC.block ?_
  refine VC.inv ((108, mnil) :: _) (fun _ h => h.nilc 108) ?_
  refine VC.loop (G := Int × (List UInt8) × (List DOp) × (Option Addr) × Nat × Mem × Int × Bool) (fun g => [(2, Value.slice (g.2.2.2.1) ((g.2.2.1).length) ((g.2.2.2.2.1))), (6, str ((g.2.1))), (7, Value.int .i64 ((g.1))), (0, Value.slice A0 (d0.length) (c0)), (3, Value.int .i64 (0)), (4, Value.int .i64 (0)), (5, Value.pointer (some ⟨g1, 0, none⟩))]) (fun g => [(108, (g.2.2.2.2.2.1)), (102, mone g1 (.cells [Value.slice A0 (d0.length) (c0), Value.int .i64 ((g.2.2.2.2.2.2.1)), Value.bool (g.2.2.2.2.2.2.2)].toArray 135 (0, 0))), (0, wm W)]) (fun g => (pOps d0 (rNum d0 8 (0, false)).1.toNat [] (rNum d0 8 (0, false)).2 = ((g.2.2.1) ++ (pOps d0 (g.1).toNat (g.2.1) ((g.2.2.2.2.2.2.1), (g.2.2.2.2.2.2.2))).1, (pOps d0 (g.1).toNat (g.2.1) ((g.2.2.2.2.2.2.1), (g.2.2.2.2.2.2.2))).2)) ∧ (rOk d0 ((g.2.2.2.2.2.2.1), (g.2.2.2.2.2.2.2))) ∧ ((g.1) ≤ 8) ∧ ((g.2.2.1).length + (g.1).toNat ≤ 8) ∧ ((g.2.1).length + 16 * (g.1).toNat ≤ 128) ∧ (OwnL TOp (g.2.2.2.2.2.1) mnil (.slice (g.2.2.2.1) (g.2.2.1).length (g.2.2.2.2.1)) (g.2.2.1))) (fun g => (g.1).toNat) ((rNum d0 8 (0, false)).1, [], [], none, 0, mnil, (rNum d0 8 (0, false)).2.1, (rNum d0 8 (0, false)).2.2) (⟨by rfl, by assumption, by omega, by (simp; omega), by (simp; omega), (OwnL.nil TOp mnil mnil)⟩) ⟨⟨rfl, rfl, rfl, rfl, rfl, rfl, rfl, trivial⟩, fun _ h => h.sub [108, 102, 0]⟩ ?_
  rintro ⟨k, last, l, l_A, l_c, l_m, at_, bad⟩ ⟨hp, hok, hk, hlen, hla, h_l⟩
  replace hp : pOps d0 (rNum d0 8 (0, false)).1.toNat [] (rNum d0 8 (0, false)).2 = (l ++ (pOps d0 k.toNat last (at_, bad)).1, (pOps d0 k.toNat last (at_, bad)).2) := hp
  replace hok : rOk d0 (at_, bad) := hok
  replace hk : k ≤ 8 := hk
  replace hlen : l.length + k.toNat ≤ 8 := hlen
  replace hla : last.length + 16 * k.toNat ≤ 128 := hla
  replace h_l : OwnL TOp l_m mnil (.slice l_A l.length l_c) l := h_l
  show VC _ _ _ _ _ [(2, Value.slice l_A (l.length) (l_c)), (6, str (last)), (7, Value.int .i64 (k)), (0, Value.slice A0 (d0.length) (c0)), (3, Value.int .i64 (0)), (4, Value.int .i64 (0)), (5, Value.pointer (some ⟨g1, 0, none⟩))] [(108, l_m), (102, mone g1 (.cells [Value.slice A0 (d0.length) (c0), Value.int .i64 (at_), Value.bool bad].toArray 135 (0, 0))), (0, wm W)]
  have l_l : l.length ≤ l_c := by obtain ⟨_, _, he, hl, _⟩ := h_l.slice; simp only [Value.slice.injEq] at he; omega
  have k_l : l_c ≤ 9223372036854775807 := by obtain ⟨_, _, he, _, hl⟩ := h_l.slice; simp only [Value.slice.injEq, maxLen] at he hl; omega
  obtain ⟨hoka, hokb⟩ := (show 0 ≤ at_ ∧ at_ ≤ d0.length from hok)
  refine VC.seq ?_
  refine VC.rs ?_
  refine VO.mv ?_
  refine VO.y rfl (.gtr rfl rfl) ?_
  refine VO.mv ?_
  refine VO.dec (t := 16) rfl (fun hc9 => ?_) (fun hc9 => ?_)
  · -- T
    refine VO.gy rfl ⟨_, rfl, rfl⟩ (.mv rfl) ?_
    refine VO.gy rfl ⟨_, rfl, rfl⟩ (.nilp rfl) ?_
    refine VO.gy rfl ⟨_, rfl, rfl⟩ (.fa rfl tst135 rfl) ?_
    refine VO.gy rfl ⟨_, rfl, rfl⟩ (.ld1 102 rfl tk4 rfl (cellsAt_one rfl rfl)) ?_
    refine VO.gy rfl ⟨_, rfl, rfl⟩ (.not rfl) ?_
    refine VO.y rfl (.pT rfl rfl) ?_
    refine VO.k8 0 2 3 4 5 6 7 22 ?_
    refine VC.condBN rfl (fun hc10 => ?_) (fun hc10 => ?_)
    · -- TT
      refine VC.skip ?_
      refine outN ?_
      refine VC.seq ?_
      refine VC.block ?_
      refine VC.rs ?_
      refine VO.mv ?_
      refine VO.mv ?_
      refine VO.call 102 rfl fnOk121 rfl rfl (fun W hW => bOp_ok W (d0 := (d0, at_, bad)) (hW.at (i := 102) rfl) (Rd.mono h0 (hW.out (i := 102) (j := 0) rfl rfl)) bdk last bdm (by first | assumption | exact ⟨by omega, by omega⟩ | exact ⟨by (simp; done), by (simp; done)⟩) bd) (fun v11 m11 hv11 => ?_)
      try dsimp only at hv11
      obtain ⟨s11_0, rfl, f11_0, rfl, w11_0_1⟩ := hv11
      have hfa12 := (rOp_ok (B := d0) (last := last) (s := (at_, bad)) (by first | assumption | exact ⟨by omega, by omega⟩ | exact ⟨by (simp; done), by (simp; done)⟩) (by omega)).1
      have hfa13 := (rOp_ok (B := d0) (last := last) (s := (at_, bad)) (by first | assumption | exact ⟨by omega, by omega⟩ | exact ⟨by (simp; done), by (simp; done)⟩) (by omega)).1.1
      have hfa14 := (rOp_ok (B := d0) (last := last) (s := (at_, bad)) (by first | assumption | exact ⟨by omega, by omega⟩ | exact ⟨by (simp; done), by (simp; done)⟩) (by omega)).1.2
      have hfa15 := (rOp_ok (B := d0) (last := last) (s := (at_, bad)) (by first | assumption | exact ⟨by omega, by omega⟩ | exact ⟨by (simp; done), by (simp; done)⟩) (by omega)).2.1
      have hfa16 := (rOp_ok (B := d0) (last := last) (s := (at_, bad)) (by first | assumption | exact ⟨by omega, by omega⟩ | exact ⟨by (simp; done), by (simp; done)⟩) (by omega)).2.2
      simp only [inK] at w11_0_1
      obtain ⟨rfl, q11_0_1, q11_0_2⟩ := open_Op (x0 := ((rOp d0 last (at_, bad)).1).1) (x1 := ((rOp d0 last (at_, bad)).1).2.1) (x2 := ((rOp d0 last (at_, bad)).1).2.2) (f11_0.rd (mle_refl _))
      simp only [maxLen] at q11_0_1
      simp only [maxLen] at q11_0_2
      refine VO.alloc 118 rfl tz78 (fun g17 => ?_)
      refine VO.store (k := 3) (c' := [Value.bool (((rOp d0 last (at_, bad)).1).1), str (((rOp d0 last (at_, bad)).1).2.1), str (((rOp d0 last (at_, bad)).1).2.2)]) 118 rfl rfl (.inl tk78) rfl rfl rfl rfl rfl ?_
      refine VO.keep [118, 102, 108, 0] [(118, mone g17 (.cells [Value.bool (((rOp d0 last (at_, bad)).1).1), str (((rOp d0 last (at_, bad)).1).2.1), str (((rOp d0 last (at_, bad)).1).2.2)].toArray 78 (0, 0))), (102, mone g1 (.cells [Value.slice A0 (d0.length) (c0), Value.int .i64 ((rOp d0 last (at_, bad)).2.1), Value.bool ((rOp d0 last (at_, bad)).2.2)].toArray 135 (0, 0))), (108, l_m), (0, wm W)] (by kernel_rfl) ?_
      refine VO.k9 0 2 3 4 5 6 7 8 22 ?_
      refine VC.rs ?_
      refine VO.mv ?_
      refine VO.y rfl (.ldA 118 rfl tk78 rfl (cellsAt_one rfl rfl)) ?_
      refine VO.bsl (cs := [Value.bool (((rOp d0 last (at_, bad)).1).1), str (((rOp d0 last (at_, bad)).1).2.1), str (((rOp d0 last (at_, bad)).1).2.2)]) 120 rfl rfl tsl30 tz78 rfl rfl (fun g19 => ?_)
      obtain ⟨mo21, cs21, hM21, hA21, hC21⟩ := h_l
      refine VO.app 108 rfl rfl rfl tsl30 tz78 rfl rfl hM21 hA21 (.row 120 _ _ _ 1 1 _ _ Try.underlying30 rfl (cellsAt_one rfl rfl)) (by simp [Value.oneCell']) bdm bd (by decide) (fun v21 m21 hN21 => ?_)
      have ho21 : OwnL TOp m21 mnil v21 (l ++ [((rOp d0 last (at_, bad)).1)]) := OwnL.one hC21 hN21 (show Rd TOp _ _ ((rOp d0 last (at_, bad)).1) from (mk_Op (m := _) (((rOp d0 last (at_, bad)).1).1) (((rOp d0 last (at_, bad)).1).2.1) (((rOp d0 last (at_, bad)).1).2.2) bdm bdm))
      obtain ⟨A21, c21, rfl, l21, k21⟩ := ho21.slice
      simp only [maxLen] at k21
      refine VO.as ?_
      refine VO.k9 0 2 3 4 5 6 7 8 22 ?_
      refine VC.reg ?_
      refine VO.y rfl (.fa rfl tst78 rfl) ?_
      refine VO.y rfl (.ld1 118 rfl tk9 rfl (cellsAt_one rfl rfl)) ?_
      refine VO.as ?_
      refine VO.k9 0 2 3 4 5 6 7 8 22 ?_
      refine outBN ?_
      refine outN ?_
      refine VC.reg ?_
      refine VO.mv ?_
      refine VO.y rfl (.sub rfl rfl rfl ⟨bd, bd⟩) ?_
      refine VO.as ?_
      refine VO.keep [118, 102, 108, 0] [(118, mone g17 (.cells [Value.bool (((rOp d0 last (at_, bad)).1).1), str (((rOp d0 last (at_, bad)).1).2.1), str (((rOp d0 last (at_, bad)).1).2.2)].toArray 78 (0, 0))), (102, mone g1 (.cells [Value.slice A0 (d0.length) (c0), Value.int .i64 ((rOp d0 last (at_, bad)).2.1), Value.bool ((rOp d0 last (at_, bad)).2.2)].toArray 135 (0, 0))), (108, m21), (0, wm W)] (by kernel_rfl) ?_
      refine VO.k9 0 2 3 4 5 6 7 8 22 ?_
      exact outN ⟨⟨k - 1, ((rOp d0 last (at_, bad)).1).2.1, l ++ [((rOp d0 last (at_, bad)).1)], A21, c21, m21, (rOp d0 last (at_, bad)).2.1, (rOp d0 last (at_, bad)).2.2⟩, ⟨by exact ops_step hp (by omega) (by assumption), by assumption, by omega, by (simp only [List.length_append, List.length_cons, List.length_nil]; omega), by dsimp only; omega, ho21⟩, bd, ⟨⟨rfl, rfl, rfl, rfl, rfl, rfl, rfl, trivial⟩, fun _ h => Inv.sub h [108, 102, 0]⟩⟩
    · -- TF
      refine VC.exit ?_
      refine outE ?_
      refine outE ?_
      refine outBB ?_
      refine outN ?_
      refine VC.seq ?_
      refine VC.rs ?_
      refine VO.mv ?_
      refine VO.y rfl (.nilp rfl) ?_
      refine VO.y rfl (.fa rfl tst135 rfl) ?_
      refine VO.y rfl (.ld1 102 rfl tk4 rfl (cellsAt_one rfl rfl)) ?_
      refine VO.mv ?_
      refine VO.known (t := 38) true rfl hc10 ?_
      refine VO.gN ?_
      refine VO.gN ?_
      refine VO.gN ?_
      refine VO.y rfl (.pT rfl rfl) ?_
      refine VO.keep [108, 102, 0] [(108, l_m), (102, mone g1 (.cells [Value.slice A0 (d0.length) (c0), Value.int .i64 (at_), Value.bool bad].toArray 135 (0, 0))), (0, wm W)] (by kernel_rfl) ?_
      refine VO.k9 0 2 3 4 5 6 7 22 42 ?_
      refine VC.condT rfl ?_
      refine VC.rs ?_
      refine VO.as ?_
      refine VO.as ?_
      refine VO.as ?_
      refine VO.k9 0 2 3 4 5 6 7 22 42 ?_
      refine VC.ret ?_
      refine outR ?_
      refine ⟨_, _, res_run (rs := [.tmp 2, .tmp 3, .tmp 4]) rfl (.tmp rfl (.tmp rfl (.tmp rfl .nil))), fun W_ hI => out_of (l := []) hI [] rfl rfl (mle_refl _) (fun hS_ => ?_)⟩
      dsimp only [packV]
      have he0 : ((bRead d0).1 : Ty.Den (.sl TOp)) = [] := by first | rfl | (have hf := ops_end hp (by first | exact .inl (by omega) | exact .inr (by assumption)); first | (rw [bRead_bad (Prod.ext hf.1 hf.2) (by first | exact .inl (by assumption) | exact .inr (by assumption))] <;> rfl) | (rw [bRead_good (Prod.ext hf.1 hf.2) (by assumption) (by omega)] <;> rfl))
      refine ⟨Value.slice none (0) (0), ?_, ?_⟩
      rotate_left
      · rw [he0]; exact (Ow.nil _ _)
      all_goals (first | rfl | (have hf := ops_end hp (by first | exact .inl (by omega) | exact .inr (by assumption)); first | (rw [bRead_bad (Prod.ext hf.1 hf.2) (by first | exact .inl (by assumption) | exact .inr (by assumption))] <;> rfl) | (rw [bRead_good (Prod.ext hf.1 hf.2) (by assumption) (by omega)] <;> rfl)))
  · -- F
    refine VO.gN ?_
    refine VO.gN ?_
    refine VO.gN ?_
    refine VO.gN ?_
    refine VO.gN ?_
    refine VO.y rfl (.pF rfl rfl) ?_
    refine VO.k8 0 2 3 4 5 6 7 22 ?_
    refine VC.condF rfl ?_
    refine VC.exit ?_
    refine outE ?_
    refine outE ?_
    refine outBB ?_
    refine outN ?_
    refine VC.seq ?_
    refine VC.rs ?_
    refine VO.mv ?_
    refine VO.y rfl (.nilp rfl) ?_
    refine VO.y rfl (.fa rfl tst135 rfl) ?_
    refine VO.y rfl (.ld1 102 rfl tk4 rfl (cellsAt_one rfl rfl)) ?_
    refine VO.mv ?_
    refine VO.decB (t := 38) rfl (fun hc22 => ?_) (fun hc22 => ?_)
    · -- FT
      refine VO.gN ?_
      refine VO.gN ?_
      refine VO.gN ?_
      refine VO.y rfl (.pT rfl rfl) ?_
      refine VO.keep [108, 102, 0] [(108, l_m), (102, mone g1 (.cells [Value.slice A0 (d0.length) (c0), Value.int .i64 (at_), Value.bool bad].toArray 135 (0, 0))), (0, wm W)] (by kernel_rfl) ?_
      refine VO.k9 0 2 3 4 5 6 7 22 42 ?_
      refine VC.condT rfl ?_
      refine VC.rs ?_
      refine VO.as ?_
      refine VO.as ?_
      refine VO.as ?_
      refine VO.k9 0 2 3 4 5 6 7 22 42 ?_
      refine VC.ret ?_
      refine outR ?_
      refine ⟨_, _, res_run (rs := [.tmp 2, .tmp 3, .tmp 4]) rfl (.tmp rfl (.tmp rfl (.tmp rfl .nil))), fun W_ hI => out_of (l := []) hI [] rfl rfl (mle_refl _) (fun hS_ => ?_)⟩
      dsimp only [packV]
      have he0 : ((bRead d0).1 : Ty.Den (.sl TOp)) = [] := by first | rfl | (have hf := ops_end hp (by first | exact .inl (by omega) | exact .inr (by assumption)); first | (rw [bRead_bad (Prod.ext hf.1 hf.2) (by first | exact .inl (by assumption) | exact .inr (by assumption))] <;> rfl) | (rw [bRead_good (Prod.ext hf.1 hf.2) (by assumption) (by omega)] <;> rfl))
      refine ⟨Value.slice none (0) (0), ?_, ?_⟩
      rotate_left
      · rw [he0]; exact (Ow.nil _ _)
      all_goals (first | rfl | (have hf := ops_end hp (by first | exact .inl (by omega) | exact .inr (by assumption)); first | (rw [bRead_bad (Prod.ext hf.1 hf.2) (by first | exact .inl (by assumption) | exact .inr (by assumption))] <;> rfl) | (rw [bRead_good (Prod.ext hf.1 hf.2) (by assumption) (by omega)] <;> rfl)))
    · -- FF
      refine VO.gy rfl ⟨_, rfl, rfl⟩ (.mv rfl) ?_
      refine VO.gcallN 123 rfl ⟨_, rfl, rfl⟩ fnOk106 rfl (fun W hW => bCheck_ok W (OwnL.rd h_l (hW.at (i := 108) rfl) (mle_nil _))) (fun v23 m23 hv23 => ?_)
      subst hv23
      have hfa24 := batchCheck_range l
      refine VO.gy rfl ⟨_, rfl, rfl⟩ (.neq rfl rfl) ?_
      refine VO.y rfl (.pF rfl rfl) ?_
      refine VO.keep [108, 102, 0] [(108, l_m), (102, mone g1 (.cells [Value.slice A0 (d0.length) (c0), Value.int .i64 (at_), Value.bool bad].toArray 135 (0, 0))), (0, wm W)] (by kernel_rfl) ?_
      refine VO.k9 0 2 3 4 5 6 7 22 42 ?_
      refine VC.cond rfl (fun hc25 => ?_) (fun hc25 => ?_)
      · -- FFT
        refine VC.rs ?_
        refine VO.as ?_
        refine VO.as ?_
        refine VO.as ?_
        refine VO.k9 0 2 3 4 5 6 7 22 42 ?_
        refine VC.ret ?_
        refine outR ?_
        refine ⟨_, _, res_run (rs := [.tmp 2, .tmp 3, .tmp 4]) rfl (.tmp rfl (.tmp rfl (.tmp rfl .nil))), fun W_ hI => out_of (l := []) hI [] rfl rfl (mle_refl _) (fun hS_ => ?_)⟩
        dsimp only [packV]
        have he0 : ((bRead d0).1 : Ty.Den (.sl TOp)) = [] := by first | rfl | (have hf := ops_end hp (by first | exact .inl (by omega) | exact .inr (by assumption)); first | (rw [bRead_bad (Prod.ext hf.1 hf.2) (by first | exact .inl (by assumption) | exact .inr (by assumption))] <;> rfl) | (rw [bRead_good (Prod.ext hf.1 hf.2) (by assumption) (by omega)] <;> rfl))
        refine ⟨Value.slice none (0) (0), ?_, ?_⟩
        rotate_left
        · rw [he0]; exact (Ow.nil _ _)
        all_goals (first | rfl | (have hf := ops_end hp (by first | exact .inl (by omega) | exact .inr (by assumption)); first | (rw [bRead_bad (Prod.ext hf.1 hf.2) (by first | exact .inl (by assumption) | exact .inr (by assumption))] <;> rfl) | (rw [bRead_good (Prod.ext hf.1 hf.2) (by assumption) (by omega)] <;> rfl)))
      · -- FFF
        refine VC.skip ?_
        refine outN ?_
        refine VC.seq ?_
        refine VC.regD _ 6 [(0, true), (1, true), (2, true), (3, true), (4, true), (5, true)] follows (by kernel_rfl) (fun _ h => h.sub [108, 102, 0]) ?_
        refine VD.y rfl rfl (.inl rfl) (.mv rfl) ?_
        refine VD.y rfl rfl (.inl rfl) (.mv rfl) ?_
        refine VD.y rfl rfl (.inl rfl) (.nilp rfl) ?_
        refine VD.y rfl rfl (.inl rfl) (.fa rfl tst135 rfl) ?_
        refine VD.y rfl rfl (.inl rfl) (.ld1 102 rfl tk3 rfl (cellsAt_one rfl rfl)) ?_
        refine VD.y rfl rfl (.inl rfl) (.as rfl) ?_
        refine VD.nil rfl ?_ rfl
        refine VO.as ?_
        refine VO.as ?_
        refine VO.k9 0 2 3 4 5 6 7 22 42 ?_
        refine outN ?_
        refine VC.ret ?_
        refine ⟨_, _, res_run (rs := [.tmp 2, .tmp 3, .tmp 4]) rfl (.tmp rfl (.tmp rfl (.tmp rfl .nil))), fun W_ hI => out_of (l := [l_m]) hI [108] rfl rfl (mle_refl _) (fun hS_ => ?_)⟩
        dsimp only [packV]
        have he0 : ((bRead d0).1 : Ty.Den (.sl TOp)) = l := by first | rfl | (have hf := ops_end hp (by first | exact .inl (by omega) | exact .inr (by assumption)); first | (rw [bRead_bad (Prod.ext hf.1 hf.2) (by first | exact .inl (by assumption) | exact .inr (by assumption))] <;> rfl) | (rw [bRead_good (Prod.ext hf.1 hf.2) (by assumption) (by omega)] <;> rfl))
        refine ⟨Value.slice l_A (l.length) (l_c), ?_, ?_⟩
        rotate_left
        · rw [he0]; exact (Ow.up (OwnL.ow h_l rfl) (hS_.1 _ (.head _)))
        all_goals (first | rfl | (have hf := ops_end hp (by first | exact .inl (by omega) | exact .inr (by assumption)); first | (rw [bRead_bad (Prod.ext hf.1 hf.2) (by first | exact .inl (by assumption) | exact .inr (by assumption))] <;> rfl) | (rw [bRead_good (Prod.ext hf.1 hf.2) (by assumption) (by omega)] <;> rfl)))
theorem bAppend_ok (W : World) {v0 : Value} {d0 : List UInt8} (h0 : Rd (.sl .byte) (wm W) [v0] d0) {v1 : Value} {d1 : List DOp} (h1 : Rd (.sl TOp) (wm W) [v1] d1) (e0 : d0.length ≤ 140737488352000) : CallR Try.prog 88 [v0, v1] W (mnil) (fun v m' => ∃ (s0 : Value), v = .tuple #[s0, .int .i64 ((bAppend d0 d1).2)] ∧ Ow (.sl .byte) m' [s0] ((bAppend d0 d1).1)) := by
  obtain ⟨A0, c0, rfl, l0, k0⟩ := h0.slice
  simp only [maxLen] at k0
  obtain ⟨A1, c1, rfl, l1, k1⟩ := h1.slice
  simp only [maxLen] at k1
  refine CallR.ofA (n := 70) Try.func88 rfl rfl rfl ?_
  refine VC.rs ?_
  refine VO.as ?_
  refine VO.as ?_
  refine VO.k4 0 1 4 5 ?_
  refine VC.seq ?_
  refine VC.rs ?_
  refine VO.mv ?_
  refine VO.callN 101 rfl fnOk106 rfl (fun W hW => bCheck_ok W (Rd.mono h1 (hW.at (i := 0) rfl))) (fun v1 m1 hv1 => ?_)
  subst hv1
  have hfa2 := batchCheck_range d1
  refine VO.as ?_
  refine VO.k5 0 1 4 5 6 ?_
  refine VC.rs ?_
  refine VO.mv ?_
  refine VO.y rfl (.neq rfl rfl) ?_
  refine VO.keep [0] [(0, wm W)] (by kernel_rfl) ?_
  refine VO.k6 0 1 4 5 6 16 ?_
  refine VC.cond rfl (fun hc3 => ?_) (fun hc3 => ?_)
  · -- T
    refine VC.rs ?_
    refine VO.mv ?_
    refine VO.as ?_
    refine VO.as ?_
    refine VO.k6 0 1 4 5 6 16 ?_
    refine VC.ret ?_
    refine outR ?_
    refine ⟨_, _, res_run (rs := [.tmp 4, .tmp 5]) rfl (.tmp rfl (.tmp rfl .nil)), fun W_ hI => out_of (l := []) hI [] rfl rfl (mle_refl _) (fun hS_ => ?_)⟩
    dsimp only [packV]
    have he0 : ((bAppend d0 d1).1 : Ty.Den (.sl .byte)) = [] := by first | rfl | (first | (rw [bAppend_bad ‹_›] <;> rfl) | (rw [bAppend_good (by omega)]; dsimp only; rw [← he, List.drop_of_length_le (by omega)]; simp [encOps]))
    refine ⟨Value.slice none (0) (0), ?_, ?_⟩
    rotate_left
    · rw [he0]; exact (Ow.nil _ _)
    all_goals (first | rfl | (first | (rw [bAppend_bad ‹_›] <;> rfl) | (rw [bAppend_good (by omega)] <;> rfl)))
  · -- F
    refine VC.skip ?_
    refine outN ?_
    refine VC.rs ?_
    refine VO.mv ?_
    refine VO.mv ?_
    refine VO.y rfl (.lenS rfl tsl30) ?_
    refine VO.y rfl (.cvI rfl ⟨_, Try.underlying3⟩ Try.underlying82 (IntWalk.u64_in _ (by first | omega | (have ho_ := batchCheck_mem (by omega : batchCheck d1 = 0) (List.mem_of_getElem? ‹d1[k]? = some _›); have := ho_.2.1; have := ho_.2.2.1; have := encOp_len (last := last) ho_; have := (batch_len (by omega : batchCheck d1 = 0)).2; omega) | (have ho_ := batchCheck_mem (by omega : batchCheck d1 = 0) (List.mem_of_getElem? ‹d1[k]? = some _›); have := ho_.2.1; have := ho_.2.2.1; have := (batch_len (by omega : batchCheck d1 = 0)).2; simp only [List.length_append, List.length_nil, List.length_cons, List.length_take, List.length_drop] at *; omega)))) ?_
    refine VO.callN 104 rfl fnOk54 rfl (fun W hW => vAppend_ok W (Rd.mono h0 (hW.at (i := 0) rfl)) d1.length (by first | omega | (have ho_ := batchCheck_mem (by omega : batchCheck d1 = 0) (List.mem_of_getElem? ‹d1[k]? = some _›); have := ho_.2.1; have := ho_.2.2.1; have := encOp_len (last := last) ho_; have := (batch_len (by omega : batchCheck d1 = 0)).2; omega) | (have ho_ := batchCheck_mem (by omega : batchCheck d1 = 0) (List.mem_of_getElem? ‹d1[k]? = some _›); have := ho_.2.1; have := ho_.2.2.1; have := (batch_len (by omega : batchCheck d1 = 0)).2; simp only [List.length_append, List.length_nil, List.length_cons, List.length_take, List.length_drop] at *; omega)) (by first | omega | (have ho_ := batchCheck_mem (by omega : batchCheck d1 = 0) (List.mem_of_getElem? ‹d1[k]? = some _›); have := ho_.2.1; have := ho_.2.2.1; have := encOp_len (last := last) ho_; have := (batch_len (by omega : batchCheck d1 = 0)).2; omega) | (have ho_ := batchCheck_mem (by omega : batchCheck d1 = 0) (List.mem_of_getElem? ‹d1[k]? = some _›); have := ho_.2.1; have := ho_.2.2.1; have := (batch_len (by omega : batchCheck d1 = 0)).2; simp only [List.length_append, List.length_nil, List.length_cons, List.length_take, List.length_drop] at *; omega))) (fun v4 m4 hv4 => ?_)
    obtain ⟨s4_0, rfl, f4_0⟩ := hv4
    have hfa5 := venc_len (x := d1.length) (by first | omega | exact or64 (by assumption) _)
    obtain ⟨A4_0, c4_0, eq4_0, l4_0, k4_0⟩ := f4_0.slice
    subst eq4_0
    simp only [maxLen] at k4_0
    refine VO.as ?_
    refine VO.k7 0 1 4 5 6 7 16 ?_
    refine VC.rs ?_
    refine VO.as ?_
    refine VO.k8 0 1 4 5 6 7 8 16 ?_
    refine VC.seq ?_
    refine VC.rs ?_
    refine VO.mv ?_
    refine VO.y rfl (.lenS rfl tsl30) ?_
    refine VO.mv ?_
    refine VO.keep [104, 0] [(104, m4), (0, wm W)] (by kernel_rfl) ?_
    refine VO.k11 0 1 4 5 6 7 8 16 23 24 25 ?_
    refine VC.block ?_
    refine VC.loop (G := Nat × (List UInt8) × (List UInt8) × (Option Addr) × Nat × Mem) (fun g => [(7, Value.slice (g.2.2.2.1) ((g.2.2.1).length) ((g.2.2.2.2.1))), (8, str ((g.2.1))), (25, Value.int .i64 ((((g.1) : Nat) : Int))), (0, Value.slice A0 (d0.length) (c0)), (1, Value.slice A1 (d1.length) (c1)), (4, Value.slice none (0) (0)), (5, Value.int .i64 (0)), (6, Value.int .i64 (batchCheck d1)), (16, Value.bool (decide (¬ (batchCheck d1) = 0))), (23, Value.slice A1 (d1.length) (c1)), (24, Value.int .i64 (((d1.length : Nat) : Int)))]) (fun g => [(104, (g.2.2.2.2.2)), (0, wm W)]) (fun g => ((g.1) ≤ d1.length) ∧ ((g.2.2.1) ++ encOps (g.2.1) (d1.drop (g.1)) = d0 ++ batchEnc d1) ∧ ((g.2.2.1).length ≤ d0.length + 10 + 80 * (g.1)) ∧ ((g.2.1).length ≤ 16) ∧ (OwnL .byte (g.2.2.2.2.2) mnil (.slice (g.2.2.2.1) (g.2.2.1).length (g.2.2.2.2.1)) (g.2.2.1))) (fun g => d1.length - (g.1)) (0, [], d0 ++ venc d1.length, A4_0, c4_0, m4) (⟨by omega, by (simp [batchEnc]), by (have := venc_len (x := d1.length) (by omega); simp; omega), by (simp; done), (Ow.ownl f4_0 rfl mnil)⟩) ⟨⟨rfl, rfl, rfl, rfl, rfl, rfl, rfl, rfl, rfl, rfl, rfl, trivial⟩, fun _ h => h.sub [104, 0]⟩ ?_
    rintro ⟨k, last, out, out_A, out_c, out_m⟩ ⟨hk, he, hlo, hla, h_out⟩
    replace hk : k ≤ d1.length := hk
    replace he : out ++ encOps last (d1.drop k) = d0 ++ batchEnc d1 := he
    replace hlo : out.length ≤ d0.length + 10 + 80 * k := hlo
    replace hla : last.length ≤ 16 := hla
    replace h_out : OwnL .byte out_m mnil (.slice out_A out.length out_c) out := h_out
    show VC _ _ _ _ _ [(7, Value.slice out_A (out.length) (out_c)), (8, str (last)), (25, Value.int .i64 (((k : Nat) : Int))), (0, Value.slice A0 (d0.length) (c0)), (1, Value.slice A1 (d1.length) (c1)), (4, Value.slice none (0) (0)), (5, Value.int .i64 (0)), (6, Value.int .i64 (batchCheck d1)), (16, Value.bool (decide (¬ (batchCheck d1) = 0))), (23, Value.slice A1 (d1.length) (c1)), (24, Value.int .i64 (((d1.length : Nat) : Int)))] [(104, out_m), (0, wm W)]
    have l_out : out.length ≤ out_c := by obtain ⟨_, _, he, hl, _⟩ := h_out.slice; simp only [Value.slice.injEq] at he; omega
    have k_out : out_c ≤ 9223372036854775807 := by obtain ⟨_, _, he, _, hl⟩ := h_out.slice; simp only [Value.slice.injEq, maxLen] at he hl; omega
    refine VC.rs ?_
    refine VO.y rfl (.lss rfl rfl) ?_
    refine VO.k12 0 1 4 5 6 7 8 16 23 24 25 26 ?_
    refine VC.seq ?_
    refine VC.cond rfl (fun hc6 => ?_) (fun hc6 => ?_)
    · -- FT
      refine VC.skip ?_
      refine outN ?_
      refine VC.seq ?_
      refine VC.block ?_
      refine VC.rs ?_
      obtain ⟨x7, hx7⟩ : ∃ z_, (d1)[k]? = some z_ := ⟨_, List.getElem?_eq_getElem (by first | omega | (have ho_ := batchCheck_mem (by omega : batchCheck d1 = 0) (List.mem_of_getElem? ‹d1[k]? = some _›); have := ho_.2.1; have := ho_.2.2.1; have := encOp_len (last := last) ho_; have := (batch_len (by omega : batchCheck d1 = 0)).2; omega) | (have ho_ := batchCheck_mem (by omega : batchCheck d1 = 0) (List.mem_of_getElem? ‹d1[k]? = some _›); have := ho_.2.1; have := ho_.2.2.1; have := (batch_len (by omega : batchCheck d1 = 0)).2; simp only [List.length_append, List.length_nil, List.length_cons, List.length_take, List.length_drop] at *; omega))⟩
      obtain ⟨gg7, oo7, ec7, ea7, hce7, hre7⟩ := h1.elem hx7
      cases ea7
      obtain ⟨rfl, q7_1, q7_2⟩ := open_Op (x0 := x7.1) (x1 := x7.2.1) (x2 := x7.2.2) hre7
      simp only [maxLen] at q7_1
      simp only [maxLen] at q7_2
      refine VO.y rfl (.ixI k rfl rfl tsl30 rfl (by first | omega | (have ho_ := batchCheck_mem (by omega : batchCheck d1 = 0) (List.mem_of_getElem? ‹d1[k]? = some _›); have := ho_.2.1; have := ho_.2.2.1; have := encOp_len (last := last) ho_; have := (batch_len (by omega : batchCheck d1 = 0)).2; omega) | (have ho_ := batchCheck_mem (by omega : batchCheck d1 = 0) (List.mem_of_getElem? ‹d1[k]? = some _›); have := ho_.2.1; have := ho_.2.2.1; have := (batch_len (by omega : batchCheck d1 = 0)).2; simp only [List.length_append, List.length_nil, List.length_cons, List.length_take, List.length_drop] at *; omega))) ?_
      refine VO.y rfl (.ldA 0 rfl tk78 rfl hce7) ?_
      refine VO.alloc 109 rfl tz78 (fun g8 => ?_)
      refine VO.store (k := 3) (c' := [Value.bool x7.1, str (x7.2.1), str (x7.2.2)]) 109 rfl rfl (.inl tk78) rfl rfl rfl rfl rfl ?_
      refine VO.k13 0 1 4 5 6 7 8 10 16 23 24 25 26 ?_
      refine VC.rs ?_
      refine VO.mv ?_
      refine VO.y rfl (.fa rfl tst78 rfl) ?_
      refine VO.y rfl (.ld1 109 rfl tk9 rfl (cellsAt_one rfl rfl)) ?_
      refine VO.callN 110 rfl fnOk107 rfl (fun W hW => shared_ok W last (by simp only [maxLen]; (first | omega | (have ho_ := batchCheck_mem (by omega : batchCheck d1 = 0) (List.mem_of_getElem? ‹d1[k]? = some _›); have := ho_.2.1; have := ho_.2.2.1; have := encOp_len (last := last) ho_; have := (batch_len (by omega : batchCheck d1 = 0)).2; omega) | (have ho_ := batchCheck_mem (by omega : batchCheck d1 = 0) (List.mem_of_getElem? ‹d1[k]? = some _›); have := ho_.2.1; have := ho_.2.2.1; have := (batch_len (by omega : batchCheck d1 = 0)).2; simp only [List.length_append, List.length_nil, List.length_cons, List.length_take, List.length_drop] at *; omega))) x7.2.1 (by simp only [maxLen]; (first | omega | (have ho_ := batchCheck_mem (by omega : batchCheck d1 = 0) (List.mem_of_getElem? ‹d1[k]? = some _›); have := ho_.2.1; have := ho_.2.2.1; have := encOp_len (last := last) ho_; have := (batch_len (by omega : batchCheck d1 = 0)).2; omega) | (have ho_ := batchCheck_mem (by omega : batchCheck d1 = 0) (List.mem_of_getElem? ‹d1[k]? = some _›); have := ho_.2.1; have := ho_.2.2.1; have := (batch_len (by omega : batchCheck d1 = 0)).2; simp only [List.length_append, List.length_nil, List.length_cons, List.length_take, List.length_drop] at *; omega)))) (fun v10 m10 hv10 => ?_)
      subst hv10
      have hfa11 := shared_le last x7.2.1
      refine VO.as ?_
      refine VO.keep [109, 104, 0] [(109, mone g8 (.cells [Value.bool x7.1, str (x7.2.1), str (x7.2.2)].toArray 78 (0, 0))), (104, out_m), (0, wm W)] (by kernel_rfl) ?_
      refine VO.k14 0 1 4 5 6 7 8 10 11 16 23 24 25 26 ?_
      refine VC.rs ?_
      refine VO.as ?_
      refine VO.k15 0 1 4 5 6 7 8 10 11 12 16 23 24 25 26 ?_
      refine VC.seq ?_
      refine VC.rs ?_
      refine VO.y rfl (.fa rfl tst78 rfl) ?_
      refine VO.y rfl (.ld1 109 rfl tk4 rfl (cellsAt_one rfl rfl)) ?_
      refine VO.k16 0 1 4 5 6 7 8 10 11 12 16 23 24 25 26 34 ?_
      refine VC.condB rfl (fun hc12 => ?_) (fun hc12 => ?_)
      · -- FTT
        refine VC.reg ?_
        refine VO.as ?_
        refine VO.keep [109, 104, 0] [(109, mone g8 (.cells [Value.bool x7.1, str (x7.2.1), str (x7.2.2)].toArray 78 (0, 0))), (104, out_m), (0, wm W)] (by kernel_rfl) ?_
        refine VO.k16 0 1 4 5 6 7 8 10 11 12 16 23 24 25 26 34 ?_
        refine outN ?_
        refine VC.rs ?_
        refine VO.mv ?_
        refine VO.mv ?_
        refine VO.bsl (cs := [Value.int .u8 (1)]) 114 rfl rfl tsl25 tz5 rfl rfl (fun g13 => ?_)
        obtain ⟨mo15, cs15, hM15, hA15, hC15⟩ := h_out
        refine VO.app 104 rfl rfl rfl tsl25 tz5 rfl rfl hM15 hA15 (.row 114 _ _ _ 1 1 _ _ Try.underlying25 rfl (cellsAt_one rfl rfl)) (by simp [Value.oneCell']) (by simp only [maxLen]; (first | omega | (have ho_ := batchCheck_mem (by omega : batchCheck d1 = 0) (List.mem_of_getElem? ‹d1[k]? = some _›); have := ho_.2.1; have := ho_.2.2.1; have := encOp_len (last := last) ho_; have := (batch_len (by omega : batchCheck d1 = 0)).2; omega) | (have ho_ := batchCheck_mem (by omega : batchCheck d1 = 0) (List.mem_of_getElem? ‹d1[k]? = some _›); have := ho_.2.1; have := ho_.2.2.1; have := (batch_len (by omega : batchCheck d1 = 0)).2; simp only [List.length_append, List.length_nil, List.length_cons, List.length_take, List.length_drop] at *; omega))) (by first | omega | (have ho_ := batchCheck_mem (by omega : batchCheck d1 = 0) (List.mem_of_getElem? ‹d1[k]? = some _›); have := ho_.2.1; have := ho_.2.2.1; have := encOp_len (last := last) ho_; have := (batch_len (by omega : batchCheck d1 = 0)).2; omega) | (have ho_ := batchCheck_mem (by omega : batchCheck d1 = 0) (List.mem_of_getElem? ‹d1[k]? = some _›); have := ho_.2.1; have := ho_.2.2.1; have := (batch_len (by omega : batchCheck d1 = 0)).2; simp only [List.length_append, List.length_nil, List.length_cons, List.length_take, List.length_drop] at *; omega)) (by decide) (fun v15 m15 hN15 => ?_)
        have ho15 : OwnL .byte m15 mnil v15 (out ++ [UInt8.ofNat 1]) := OwnL.one hC15 hN15 (rd_byteN (by first | omega | (have ho_ := batchCheck_mem (by omega : batchCheck d1 = 0) (List.mem_of_getElem? ‹d1[k]? = some _›); have := ho_.2.1; have := ho_.2.2.1; have := encOp_len (last := last) ho_; have := (batch_len (by omega : batchCheck d1 = 0)).2; omega) | (have ho_ := batchCheck_mem (by omega : batchCheck d1 = 0) (List.mem_of_getElem? ‹d1[k]? = some _›); have := ho_.2.1; have := ho_.2.2.1; have := (batch_len (by omega : batchCheck d1 = 0)).2; simp only [List.length_append, List.length_nil, List.length_cons, List.length_take, List.length_drop] at *; omega)))
        obtain ⟨A15, c15, rfl, l15, k15⟩ := ho15.slice
        simp only [maxLen] at k15
        refine VO.mv ?_
        refine VO.y rfl (.cvI rfl ⟨_, Try.underlying3⟩ Try.underlying82 (IntWalk.u64_in _ (by first | omega | (have ho_ := batchCheck_mem (by omega : batchCheck d1 = 0) (List.mem_of_getElem? ‹d1[k]? = some _›); have := ho_.2.1; have := ho_.2.2.1; have := encOp_len (last := last) ho_; have := (batch_len (by omega : batchCheck d1 = 0)).2; omega) | (have ho_ := batchCheck_mem (by omega : batchCheck d1 = 0) (List.mem_of_getElem? ‹d1[k]? = some _›); have := ho_.2.1; have := ho_.2.2.1; have := (batch_len (by omega : batchCheck d1 = 0)).2; simp only [List.length_append, List.length_nil, List.length_cons, List.length_take, List.length_drop] at *; omega)))) ?_
        refine VO.callN 116 rfl fnOk54 rfl (fun W hW => vAppend_ok W (OwnL.rd ho15 (hW.at (i := 104) rfl) (mle_nil _)) (shared last x7.2.1) (by first | omega | (have ho_ := batchCheck_mem (by omega : batchCheck d1 = 0) (List.mem_of_getElem? ‹d1[k]? = some _›); have := ho_.2.1; have := ho_.2.2.1; have := encOp_len (last := last) ho_; have := (batch_len (by omega : batchCheck d1 = 0)).2; omega) | (have ho_ := batchCheck_mem (by omega : batchCheck d1 = 0) (List.mem_of_getElem? ‹d1[k]? = some _›); have := ho_.2.1; have := ho_.2.2.1; have := (batch_len (by omega : batchCheck d1 = 0)).2; simp only [List.length_append, List.length_nil, List.length_cons, List.length_take, List.length_drop] at *; omega)) (by first | omega | (have ho_ := batchCheck_mem (by omega : batchCheck d1 = 0) (List.mem_of_getElem? ‹d1[k]? = some _›); have := ho_.2.1; have := ho_.2.2.1; have := encOp_len (last := last) ho_; have := (batch_len (by omega : batchCheck d1 = 0)).2; omega) | (have ho_ := batchCheck_mem (by omega : batchCheck d1 = 0) (List.mem_of_getElem? ‹d1[k]? = some _›); have := ho_.2.1; have := ho_.2.2.1; have := (batch_len (by omega : batchCheck d1 = 0)).2; simp only [List.length_append, List.length_nil, List.length_cons, List.length_take, List.length_drop] at *; omega))) (fun v16 m16 hv16 => ?_)
        obtain ⟨s16_0, rfl, f16_0⟩ := hv16
        have hfa17 := venc_len (x := (shared last x7.2.1)) (by first | omega | exact or64 (by assumption) _)
        obtain ⟨A16_0, c16_0, eq16_0, l16_0, k16_0⟩ := f16_0.slice
        subst eq16_0
        simp only [maxLen] at k16_0
        refine VO.as ?_
        refine VO.k16 0 1 4 5 6 7 8 10 11 12 16 23 24 25 26 34 ?_
        refine VC.seq ?_
        refine VC.regD _ 12 [(0, true), (1, true), (2, true), (3, true), (4, true), (5, true), (6, true), (8, true), (9, true), (10, true), (11, true), (7, false)] follows (by kernel_rfl) (fun _ h => h.sub [116, 114, 109, 104, 0]) ?_
        refine VD.y rfl rfl (.inl rfl) (.mv rfl) ?_
        refine VD.y rfl rfl (.inl rfl) (.fa rfl tst78 rfl) ?_
        refine VD.y rfl rfl (.inl rfl) (.ld1 109 rfl tk9 rfl (cellsAt_one rfl rfl)) ?_
        refine VD.y rfl rfl (.inl rfl) (.lenT rfl Try.underlying9) ?_
        refine VD.y rfl rfl (.inl rfl) (.mv rfl) ?_
        refine VD.y rfl rfl (.inl rfl) (.sub rfl rfl rfl ⟨by first | omega | (have ho_ := batchCheck_mem (by omega : batchCheck d1 = 0) (List.mem_of_getElem? ‹d1[k]? = some _›); have := ho_.2.1; have := ho_.2.2.1; have := encOp_len (last := last) ho_; have := (batch_len (by omega : batchCheck d1 = 0)).2; omega) | (have ho_ := batchCheck_mem (by omega : batchCheck d1 = 0) (List.mem_of_getElem? ‹d1[k]? = some _›); have := ho_.2.1; have := ho_.2.2.1; have := (batch_len (by omega : batchCheck d1 = 0)).2; simp only [List.length_append, List.length_nil, List.length_cons, List.length_take, List.length_drop] at *; omega), by first | omega | (have ho_ := batchCheck_mem (by omega : batchCheck d1 = 0) (List.mem_of_getElem? ‹d1[k]? = some _›); have := ho_.2.1; have := ho_.2.2.1; have := encOp_len (last := last) ho_; have := (batch_len (by omega : batchCheck d1 = 0)).2; omega) | (have ho_ := batchCheck_mem (by omega : batchCheck d1 = 0) (List.mem_of_getElem? ‹d1[k]? = some _›); have := ho_.2.1; have := ho_.2.2.1; have := (batch_len (by omega : batchCheck d1 = 0)).2; simp only [List.length_append, List.length_nil, List.length_cons, List.length_take, List.length_drop] at *; omega)⟩) ?_
        refine VD.y rfl rfl (.inl rfl) (.cvI (c := ((((x7.2.1.length : Nat) : Int) - ((shared last x7.2.1 : Nat) : Int)).toNat : Int)) rfl ⟨_, Try.underlying3⟩ Try.underlying82 (by rw [IntWalk.u64_in _ (by first | omega | (have ho_ := batchCheck_mem (by omega : batchCheck d1 = 0) (List.mem_of_getElem? ‹d1[k]? = some _›); have := ho_.2.1; have := ho_.2.2.1; have := encOp_len (last := last) ho_; have := (batch_len (by omega : batchCheck d1 = 0)).2; omega) | (have ho_ := batchCheck_mem (by omega : batchCheck d1 = 0) (List.mem_of_getElem? ‹d1[k]? = some _›); have := ho_.2.1; have := ho_.2.2.1; have := (batch_len (by omega : batchCheck d1 = 0)).2; simp only [List.length_append, List.length_nil, List.length_cons, List.length_take, List.length_drop] at *; omega))]; first | omega | (first | omega | (have ho_ := batchCheck_mem (by omega : batchCheck d1 = 0) (List.mem_of_getElem? ‹d1[k]? = some _›); have := ho_.2.1; have := ho_.2.2.1; have := encOp_len (last := last) ho_; have := (batch_len (by omega : batchCheck d1 = 0)).2; omega) | (have ho_ := batchCheck_mem (by omega : batchCheck d1 = 0) (List.mem_of_getElem? ‹d1[k]? = some _›); have := ho_.2.1; have := ho_.2.2.1; have := (batch_len (by omega : batchCheck d1 = 0)).2; simp only [List.length_append, List.length_nil, List.length_cons, List.length_take, List.length_drop] at *; omega)))) ?_
        refine VD.y rfl rfl (.inl rfl) (.fa rfl tst78 rfl) ?_
        refine VD.y rfl rfl (.inl rfl) (.ld1 109 rfl tk9 rfl (cellsAt_one rfl rfl)) ?_
        refine VD.y rfl rfl (.inl rfl) (.mv rfl) ?_
        refine VD.y rfl rfl (.inl rfl) (.slTLI (shared last x7.2.1) rfl rfl Try.underlying9 rfl (by first | omega | (have ho_ := batchCheck_mem (by omega : batchCheck d1 = 0) (List.mem_of_getElem? ‹d1[k]? = some _›); have := ho_.2.1; have := ho_.2.2.1; have := encOp_len (last := last) ho_; have := (batch_len (by omega : batchCheck d1 = 0)).2; omega) | (have ho_ := batchCheck_mem (by omega : batchCheck d1 = 0) (List.mem_of_getElem? ‹d1[k]? = some _›); have := ho_.2.1; have := ho_.2.2.1; have := (batch_len (by omega : batchCheck d1 = 0)).2; simp only [List.length_append, List.length_nil, List.length_cons, List.length_take, List.length_drop] at *; omega))) ?_
        refine VD.callN 118 rfl rfl (.inl rfl) fnOk54 rfl (fun _ h => h.sub [116, 114, 109, 104, 0]) (fun W hW => vAppend_ok W (OwnL.rd (Ow.ownl f16_0 rfl mnil) (hW.at (i := 116) rfl) (mle_nil _)) ((((x7.2.1.length : Nat) : Int) - ((shared last x7.2.1 : Nat) : Int)).toNat) (by first | omega | (have ho_ := batchCheck_mem (by omega : batchCheck d1 = 0) (List.mem_of_getElem? ‹d1[k]? = some _›); have := ho_.2.1; have := ho_.2.2.1; have := encOp_len (last := last) ho_; have := (batch_len (by omega : batchCheck d1 = 0)).2; omega) | (have ho_ := batchCheck_mem (by omega : batchCheck d1 = 0) (List.mem_of_getElem? ‹d1[k]? = some _›); have := ho_.2.1; have := ho_.2.2.1; have := (batch_len (by omega : batchCheck d1 = 0)).2; simp only [List.length_append, List.length_nil, List.length_cons, List.length_take, List.length_drop] at *; omega)) (by first | omega | (have ho_ := batchCheck_mem (by omega : batchCheck d1 = 0) (List.mem_of_getElem? ‹d1[k]? = some _›); have := ho_.2.1; have := ho_.2.2.1; have := encOp_len (last := last) ho_; have := (batch_len (by omega : batchCheck d1 = 0)).2; omega) | (have ho_ := batchCheck_mem (by omega : batchCheck d1 = 0) (List.mem_of_getElem? ‹d1[k]? = some _›); have := ho_.2.1; have := ho_.2.2.1; have := (batch_len (by omega : batchCheck d1 = 0)).2; simp only [List.length_append, List.length_nil, List.length_cons, List.length_take, List.length_drop] at *; omega))) (fun v18 m18 hv18 => ?_)
        obtain ⟨s18_0, rfl, f18_0⟩ := hv18
        have hfa19 := venc_len (x := ((((x7.2.1.length : Nat) : Int) - ((shared last x7.2.1 : Nat) : Int)).toNat)) (by first | omega | exact or64 (by assumption) _)
        obtain ⟨A18_0, c18_0, eq18_0, l18_0, k18_0⟩ := f18_0.slice
        subst eq18_0
        simp only [maxLen] at k18_0
        refine VD.nil rfl ?_ rfl
        obtain ⟨mo20, cs20, hM20, hA20, hC20⟩ := (Ow.ownl f18_0 rfl mnil)
        refine VO.app 118 rfl rfl rfl tsl25 tz5 rfl rfl hM20 hA20 (.str _ Try.underlying9 rfl) (byV_nice _) (by simp only [maxLen]; (first | omega | (have ho_ := batchCheck_mem (by omega : batchCheck d1 = 0) (List.mem_of_getElem? ‹d1[k]? = some _›); have := ho_.2.1; have := ho_.2.2.1; have := encOp_len (last := last) ho_; have := (batch_len (by omega : batchCheck d1 = 0)).2; omega) | (have ho_ := batchCheck_mem (by omega : batchCheck d1 = 0) (List.mem_of_getElem? ‹d1[k]? = some _›); have := ho_.2.1; have := ho_.2.2.1; have := (batch_len (by omega : batchCheck d1 = 0)).2; simp only [List.length_append, List.length_nil, List.length_cons, List.length_take, List.length_drop] at *; omega))) (by first | omega | (have ho_ := batchCheck_mem (by omega : batchCheck d1 = 0) (List.mem_of_getElem? ‹d1[k]? = some _›); have := ho_.2.1; have := ho_.2.2.1; have := encOp_len (last := last) ho_; have := (batch_len (by omega : batchCheck d1 = 0)).2; omega) | (have ho_ := batchCheck_mem (by omega : batchCheck d1 = 0) (List.mem_of_getElem? ‹d1[k]? = some _›); have := ho_.2.1; have := ho_.2.2.1; have := (batch_len (by omega : batchCheck d1 = 0)).2; simp only [List.length_append, List.length_nil, List.length_cons, List.length_take, List.length_drop] at *; omega)) (by decide) (fun v20 m20 hN20 => ?_)
        have ho20 : OwnL .byte m20 mnil v20 ((((out ++ [UInt8.ofNat 1]) ++ venc (shared last x7.2.1)) ++ venc ((((x7.2.1.length : Nat) : Int) - ((shared last x7.2.1 : Nat) : Int)).toNat)) ++ (x7.2.1.drop (shared last x7.2.1))) := OwnL.more hC20 hN20 (rd_str _ _)
        obtain ⟨A20, c20, rfl, l20, k20⟩ := ho20.slice
        simp only [maxLen] at k20
        refine VO.as ?_
        refine VO.k16 0 1 4 5 6 7 8 10 11 12 16 23 24 25 26 34 ?_
        refine outN ?_
        refine VC.seq ?_
        refine VC.rs ?_
        refine VO.y rfl (.fa rfl tst78 rfl) ?_
        refine VO.y rfl (.ld1 109 rfl tk4 rfl (cellsAt_one rfl rfl)) ?_
        refine VO.keep [118, 109, 0] [(118, m20), (109, mone g8 (.cells [Value.bool x7.1, str (x7.2.1), str (x7.2.2)].toArray 78 (0, 0))), (0, wm W)] (by kernel_rfl) ?_
        refine VO.k17 0 1 4 5 6 7 8 10 11 12 16 23 24 25 26 34 56 ?_
        refine VC.condKT rfl hc12 ?_
        refine VC.regD _ 8 [(0, true), (1, true), (2, true), (3, true), (4, true), (6, true), (7, true), (5, false)] follows (by kernel_rfl) (fun _ h => h.sub [118, 109, 0]) ?_
        refine VD.y rfl rfl (.inl rfl) (.mv rfl) ?_
        refine VD.y rfl rfl (.inl rfl) (.fa rfl tst78 rfl) ?_
        refine VD.y rfl rfl (.inl rfl) (.ld1 109 rfl tk9 rfl (cellsAt_one rfl rfl)) ?_
        refine VD.y rfl rfl (.inl rfl) (.lenT rfl Try.underlying9) ?_
        refine VD.y rfl rfl (.inl rfl) (.cvI rfl ⟨_, Try.underlying3⟩ Try.underlying82 (IntWalk.u64_in _ (by first | omega | (have ho_ := batchCheck_mem (by omega : batchCheck d1 = 0) (List.mem_of_getElem? ‹d1[k]? = some _›); have := ho_.2.1; have := ho_.2.2.1; have := encOp_len (last := last) ho_; have := (batch_len (by omega : batchCheck d1 = 0)).2; omega) | (have ho_ := batchCheck_mem (by omega : batchCheck d1 = 0) (List.mem_of_getElem? ‹d1[k]? = some _›); have := ho_.2.1; have := ho_.2.2.1; have := (batch_len (by omega : batchCheck d1 = 0)).2; simp only [List.length_append, List.length_nil, List.length_cons, List.length_take, List.length_drop] at *; omega)))) ?_
        refine VD.y rfl rfl (.inl rfl) (.fa rfl tst78 rfl) ?_
        refine VD.y rfl rfl (.inl rfl) (.ld1 109 rfl tk9 rfl (cellsAt_one rfl rfl)) ?_
        refine VD.callN 121 rfl rfl (.inl rfl) fnOk54 rfl (fun _ h => h.sub [118, 109, 0]) (fun W hW => vAppend_ok W (OwnL.rd ho20 (hW.at (i := 118) rfl) (mle_nil _)) x7.2.2.length (by first | omega | (have ho_ := batchCheck_mem (by omega : batchCheck d1 = 0) (List.mem_of_getElem? ‹d1[k]? = some _›); have := ho_.2.1; have := ho_.2.2.1; have := encOp_len (last := last) ho_; have := (batch_len (by omega : batchCheck d1 = 0)).2; omega) | (have ho_ := batchCheck_mem (by omega : batchCheck d1 = 0) (List.mem_of_getElem? ‹d1[k]? = some _›); have := ho_.2.1; have := ho_.2.2.1; have := (batch_len (by omega : batchCheck d1 = 0)).2; simp only [List.length_append, List.length_nil, List.length_cons, List.length_take, List.length_drop] at *; omega)) (by first | omega | (have ho_ := batchCheck_mem (by omega : batchCheck d1 = 0) (List.mem_of_getElem? ‹d1[k]? = some _›); have := ho_.2.1; have := ho_.2.2.1; have := encOp_len (last := last) ho_; have := (batch_len (by omega : batchCheck d1 = 0)).2; omega) | (have ho_ := batchCheck_mem (by omega : batchCheck d1 = 0) (List.mem_of_getElem? ‹d1[k]? = some _›); have := ho_.2.1; have := ho_.2.2.1; have := (batch_len (by omega : batchCheck d1 = 0)).2; simp only [List.length_append, List.length_nil, List.length_cons, List.length_take, List.length_drop] at *; omega))) (fun v21 m21 hv21 => ?_)
        obtain ⟨s21_0, rfl, f21_0⟩ := hv21
        have hfa22 := venc_len (x := x7.2.2.length) (by first | omega | exact or64 (by assumption) _)
        obtain ⟨A21_0, c21_0, eq21_0, l21_0, k21_0⟩ := f21_0.slice
        subst eq21_0
        simp only [maxLen] at k21_0
        refine VD.nil rfl ?_ rfl
        obtain ⟨mo23, cs23, hM23, hA23, hC23⟩ := (Ow.ownl f21_0 rfl mnil)
        refine VO.app 121 rfl rfl rfl tsl25 tz5 rfl rfl hM23 hA23 (.str _ Try.underlying9 rfl) (byV_nice _) (by simp only [maxLen]; (first | omega | (have ho_ := batchCheck_mem (by omega : batchCheck d1 = 0) (List.mem_of_getElem? ‹d1[k]? = some _›); have := ho_.2.1; have := ho_.2.2.1; have := encOp_len (last := last) ho_; have := (batch_len (by omega : batchCheck d1 = 0)).2; omega) | (have ho_ := batchCheck_mem (by omega : batchCheck d1 = 0) (List.mem_of_getElem? ‹d1[k]? = some _›); have := ho_.2.1; have := ho_.2.2.1; have := (batch_len (by omega : batchCheck d1 = 0)).2; simp only [List.length_append, List.length_nil, List.length_cons, List.length_take, List.length_drop] at *; omega))) (by first | omega | (have ho_ := batchCheck_mem (by omega : batchCheck d1 = 0) (List.mem_of_getElem? ‹d1[k]? = some _›); have := ho_.2.1; have := ho_.2.2.1; have := encOp_len (last := last) ho_; have := (batch_len (by omega : batchCheck d1 = 0)).2; omega) | (have ho_ := batchCheck_mem (by omega : batchCheck d1 = 0) (List.mem_of_getElem? ‹d1[k]? = some _›); have := ho_.2.1; have := ho_.2.2.1; have := (batch_len (by omega : batchCheck d1 = 0)).2; simp only [List.length_append, List.length_nil, List.length_cons, List.length_take, List.length_drop] at *; omega)) (by decide) (fun v23 m23 hN23 => ?_)
        have ho23 : OwnL .byte m23 mnil v23 ((((((out ++ [UInt8.ofNat 1]) ++ venc (shared last x7.2.1)) ++ venc ((((x7.2.1.length : Nat) : Int) - ((shared last x7.2.1 : Nat) : Int)).toNat)) ++ (x7.2.1.drop (shared last x7.2.1))) ++ venc x7.2.2.length) ++ x7.2.2) := OwnL.more hC23 hN23 (rd_str _ _)
        obtain ⟨A23, c23, rfl, l23, k23⟩ := ho23.slice
        simp only [maxLen] at k23
        refine VO.as ?_
        refine VO.k17 0 1 4 5 6 7 8 10 11 12 16 23 24 25 26 34 56 ?_
        refine outN ?_
        refine VC.reg ?_
        refine VO.y rfl (.fa rfl tst78 rfl) ?_
        refine VO.y rfl (.ld1 109 rfl tk9 rfl (cellsAt_one rfl rfl)) ?_
        refine VO.as ?_
        refine VO.k17 0 1 4 5 6 7 8 10 11 12 16 23 24 25 26 34 56 ?_
        refine outBN ?_
        refine outN ?_
        refine VC.reg ?_
        refine VO.y rfl (.add (c := ((k + 1 : Nat) : Int)) rfl rfl (by omega) ⟨by first | omega | (have ho_ := batchCheck_mem (by omega : batchCheck d1 = 0) (List.mem_of_getElem? ‹d1[k]? = some _›); have := ho_.2.1; have := ho_.2.2.1; have := encOp_len (last := last) ho_; have := (batch_len (by omega : batchCheck d1 = 0)).2; omega) | (have ho_ := batchCheck_mem (by omega : batchCheck d1 = 0) (List.mem_of_getElem? ‹d1[k]? = some _›); have := ho_.2.1; have := ho_.2.2.1; have := (batch_len (by omega : batchCheck d1 = 0)).2; simp only [List.length_append, List.length_nil, List.length_cons, List.length_take, List.length_drop] at *; omega), by first | omega | (have ho_ := batchCheck_mem (by omega : batchCheck d1 = 0) (List.mem_of_getElem? ‹d1[k]? = some _›); have := ho_.2.1; have := ho_.2.2.1; have := encOp_len (last := last) ho_; have := (batch_len (by omega : batchCheck d1 = 0)).2; omega) | (have ho_ := batchCheck_mem (by omega : batchCheck d1 = 0) (List.mem_of_getElem? ‹d1[k]? = some _›); have := ho_.2.1; have := ho_.2.2.1; have := (batch_len (by omega : batchCheck d1 = 0)).2; simp only [List.length_append, List.length_nil, List.length_cons, List.length_take, List.length_drop] at *; omega)⟩) ?_
        refine VO.mv ?_
        refine VO.keep [121, 109, 0] [(121, m23), (109, mone g8 (.cells [Value.bool x7.1, str (x7.2.1), str (x7.2.2)].toArray 78 (0, 0))), (0, wm W)] (by kernel_rfl) ?_
        refine VO.k17 0 1 4 5 6 7 8 10 11 12 16 23 24 25 26 34 56 ?_
        exact outN ⟨⟨k + 1, x7.2.1, (((((out ++ [UInt8.ofNat 1]) ++ venc (shared last x7.2.1)) ++ venc ((((x7.2.1.length : Nat) : Int) - ((shared last x7.2.1 : Nat) : Int)).toNat)) ++ (x7.2.1.drop (shared last x7.2.1))) ++ venc x7.2.2.length) ++ x7.2.2, A23, c23, m23⟩, ⟨by omega, by exact enc_step2 he ‹d1[k]? = some _› (by first | (rw [enc_put (by assumption)]; simp only [List.append_assoc, List.cons_append, List.nil_append, List.singleton_append, Int.toNat_sub]; rfl) | (rw [enc_del (by assumption)]; simp only [List.append_assoc, List.cons_append, List.nil_append, List.singleton_append, Int.toNat_sub]; rfl)), by exact enc_len2 (last := last) hlo (by omega) ‹d1[k]? = some _› (by first | (rw [enc_put (by assumption)]; simp only [List.append_assoc, List.cons_append, List.nil_append, List.singleton_append, Int.toNat_sub]; rfl) | (rw [enc_del (by assumption)]; simp only [List.append_assoc, List.cons_append, List.nil_append, List.singleton_append, Int.toNat_sub]; rfl)), by (have ho_ := batchCheck_mem (by omega : batchCheck d1 = 0) (List.mem_of_getElem? ‹d1[k]? = some _›); have := ho_.2.1; have := ho_.2.2.1; have := encOp_len (last := last) ho_; have := (batch_len (by omega : batchCheck d1 = 0)).2; omega), ho23⟩, by first | omega | (have ho_ := batchCheck_mem (by omega : batchCheck d1 = 0) (List.mem_of_getElem? ‹d1[k]? = some _›); have := ho_.2.1; have := ho_.2.2.1; have := encOp_len (last := last) ho_; have := (batch_len (by omega : batchCheck d1 = 0)).2; omega) | (have ho_ := batchCheck_mem (by omega : batchCheck d1 = 0) (List.mem_of_getElem? ‹d1[k]? = some _›); have := ho_.2.1; have := ho_.2.2.1; have := (batch_len (by omega : batchCheck d1 = 0)).2; simp only [List.length_append, List.length_nil, List.length_cons, List.length_take, List.length_drop] at *; omega), ⟨⟨rfl, rfl, rfl, rfl, rfl, rfl, rfl, rfl, rfl, rfl, rfl, trivial⟩, fun _ h => Inv.sub (Inv.num h 121 104 rfl) [104, 0]⟩⟩
      · -- FTF
        refine VC.skip ?_
        refine outN ?_
        refine VC.rs ?_
        refine VO.mv ?_
        refine VO.mv ?_
        refine VO.bsl (cs := [Value.int .u8 (0)]) 125 rfl rfl tsl25 tz5 rfl rfl (fun g24 => ?_)
        obtain ⟨mo26, cs26, hM26, hA26, hC26⟩ := h_out
        refine VO.app 104 rfl rfl rfl tsl25 tz5 rfl rfl hM26 hA26 (.row 125 _ _ _ 1 1 _ _ Try.underlying25 rfl (cellsAt_one rfl rfl)) (by simp [Value.oneCell']) (by simp only [maxLen]; (first | omega | (have ho_ := batchCheck_mem (by omega : batchCheck d1 = 0) (List.mem_of_getElem? ‹d1[k]? = some _›); have := ho_.2.1; have := ho_.2.2.1; have := encOp_len (last := last) ho_; have := (batch_len (by omega : batchCheck d1 = 0)).2; omega) | (have ho_ := batchCheck_mem (by omega : batchCheck d1 = 0) (List.mem_of_getElem? ‹d1[k]? = some _›); have := ho_.2.1; have := ho_.2.2.1; have := (batch_len (by omega : batchCheck d1 = 0)).2; simp only [List.length_append, List.length_nil, List.length_cons, List.length_take, List.length_drop] at *; omega))) (by first | omega | (have ho_ := batchCheck_mem (by omega : batchCheck d1 = 0) (List.mem_of_getElem? ‹d1[k]? = some _›); have := ho_.2.1; have := ho_.2.2.1; have := encOp_len (last := last) ho_; have := (batch_len (by omega : batchCheck d1 = 0)).2; omega) | (have ho_ := batchCheck_mem (by omega : batchCheck d1 = 0) (List.mem_of_getElem? ‹d1[k]? = some _›); have := ho_.2.1; have := ho_.2.2.1; have := (batch_len (by omega : batchCheck d1 = 0)).2; simp only [List.length_append, List.length_nil, List.length_cons, List.length_take, List.length_drop] at *; omega)) (by decide) (fun v26 m26 hN26 => ?_)
        have ho26 : OwnL .byte m26 mnil v26 (out ++ [UInt8.ofNat 0]) := OwnL.one hC26 hN26 (rd_byteN (by first | omega | (have ho_ := batchCheck_mem (by omega : batchCheck d1 = 0) (List.mem_of_getElem? ‹d1[k]? = some _›); have := ho_.2.1; have := ho_.2.2.1; have := encOp_len (last := last) ho_; have := (batch_len (by omega : batchCheck d1 = 0)).2; omega) | (have ho_ := batchCheck_mem (by omega : batchCheck d1 = 0) (List.mem_of_getElem? ‹d1[k]? = some _›); have := ho_.2.1; have := ho_.2.2.1; have := (batch_len (by omega : batchCheck d1 = 0)).2; simp only [List.length_append, List.length_nil, List.length_cons, List.length_take, List.length_drop] at *; omega)))
        obtain ⟨A26, c26, rfl, l26, k26⟩ := ho26.slice
        simp only [maxLen] at k26
        refine VO.mv ?_
        refine VO.y rfl (.cvI rfl ⟨_, Try.underlying3⟩ Try.underlying82 (IntWalk.u64_in _ (by first | omega | (have ho_ := batchCheck_mem (by omega : batchCheck d1 = 0) (List.mem_of_getElem? ‹d1[k]? = some _›); have := ho_.2.1; have := ho_.2.2.1; have := encOp_len (last := last) ho_; have := (batch_len (by omega : batchCheck d1 = 0)).2; omega) | (have ho_ := batchCheck_mem (by omega : batchCheck d1 = 0) (List.mem_of_getElem? ‹d1[k]? = some _›); have := ho_.2.1; have := ho_.2.2.1; have := (batch_len (by omega : batchCheck d1 = 0)).2; simp only [List.length_append, List.length_nil, List.length_cons, List.length_take, List.length_drop] at *; omega)))) ?_
        refine VO.callN 127 rfl fnOk54 rfl (fun W hW => vAppend_ok W (OwnL.rd ho26 (hW.at (i := 104) rfl) (mle_nil _)) (shared last x7.2.1) (by first | omega | (have ho_ := batchCheck_mem (by omega : batchCheck d1 = 0) (List.mem_of_getElem? ‹d1[k]? = some _›); have := ho_.2.1; have := ho_.2.2.1; have := encOp_len (last := last) ho_; have := (batch_len (by omega : batchCheck d1 = 0)).2; omega) | (have ho_ := batchCheck_mem (by omega : batchCheck d1 = 0) (List.mem_of_getElem? ‹d1[k]? = some _›); have := ho_.2.1; have := ho_.2.2.1; have := (batch_len (by omega : batchCheck d1 = 0)).2; simp only [List.length_append, List.length_nil, List.length_cons, List.length_take, List.length_drop] at *; omega)) (by first | omega | (have ho_ := batchCheck_mem (by omega : batchCheck d1 = 0) (List.mem_of_getElem? ‹d1[k]? = some _›); have := ho_.2.1; have := ho_.2.2.1; have := encOp_len (last := last) ho_; have := (batch_len (by omega : batchCheck d1 = 0)).2; omega) | (have ho_ := batchCheck_mem (by omega : batchCheck d1 = 0) (List.mem_of_getElem? ‹d1[k]? = some _›); have := ho_.2.1; have := ho_.2.2.1; have := (batch_len (by omega : batchCheck d1 = 0)).2; simp only [List.length_append, List.length_nil, List.length_cons, List.length_take, List.length_drop] at *; omega))) (fun v27 m27 hv27 => ?_)
        obtain ⟨s27_0, rfl, f27_0⟩ := hv27
        have hfa28 := venc_len (x := (shared last x7.2.1)) (by first | omega | exact or64 (by assumption) _)
        obtain ⟨A27_0, c27_0, eq27_0, l27_0, k27_0⟩ := f27_0.slice
        subst eq27_0
        simp only [maxLen] at k27_0
        refine VO.as ?_
        refine VO.keep [127, 109, 0] [(127, m27), (109, mone g8 (.cells [Value.bool x7.1, str (x7.2.1), str (x7.2.2)].toArray 78 (0, 0))), (0, wm W)] (by kernel_rfl) ?_
        refine VO.k16 0 1 4 5 6 7 8 10 11 12 16 23 24 25 26 34 ?_
        refine VC.seq ?_
        refine VC.regD _ 12 [(0, true), (1, true), (2, true), (3, true), (4, true), (5, true), (6, true), (8, true), (9, true), (10, true), (11, true), (7, false)] follows (by kernel_rfl) (fun _ h => h.sub [127, 109, 0]) ?_
        refine VD.y rfl rfl (.inl rfl) (.mv rfl) ?_
        refine VD.y rfl rfl (.inl rfl) (.fa rfl tst78 rfl) ?_
        refine VD.y rfl rfl (.inl rfl) (.ld1 109 rfl tk9 rfl (cellsAt_one rfl rfl)) ?_
        refine VD.y rfl rfl (.inl rfl) (.lenT rfl Try.underlying9) ?_
        refine VD.y rfl rfl (.inl rfl) (.mv rfl) ?_
        refine VD.y rfl rfl (.inl rfl) (.sub rfl rfl rfl ⟨by first | omega | (have ho_ := batchCheck_mem (by omega : batchCheck d1 = 0) (List.mem_of_getElem? ‹d1[k]? = some _›); have := ho_.2.1; have := ho_.2.2.1; have := encOp_len (last := last) ho_; have := (batch_len (by omega : batchCheck d1 = 0)).2; omega) | (have ho_ := batchCheck_mem (by omega : batchCheck d1 = 0) (List.mem_of_getElem? ‹d1[k]? = some _›); have := ho_.2.1; have := ho_.2.2.1; have := (batch_len (by omega : batchCheck d1 = 0)).2; simp only [List.length_append, List.length_nil, List.length_cons, List.length_take, List.length_drop] at *; omega), by first | omega | (have ho_ := batchCheck_mem (by omega : batchCheck d1 = 0) (List.mem_of_getElem? ‹d1[k]? = some _›); have := ho_.2.1; have := ho_.2.2.1; have := encOp_len (last := last) ho_; have := (batch_len (by omega : batchCheck d1 = 0)).2; omega) | (have ho_ := batchCheck_mem (by omega : batchCheck d1 = 0) (List.mem_of_getElem? ‹d1[k]? = some _›); have := ho_.2.1; have := ho_.2.2.1; have := (batch_len (by omega : batchCheck d1 = 0)).2; simp only [List.length_append, List.length_nil, List.length_cons, List.length_take, List.length_drop] at *; omega)⟩) ?_
        refine VD.y rfl rfl (.inl rfl) (.cvI (c := ((((x7.2.1.length : Nat) : Int) - ((shared last x7.2.1 : Nat) : Int)).toNat : Int)) rfl ⟨_, Try.underlying3⟩ Try.underlying82 (by rw [IntWalk.u64_in _ (by first | omega | (have ho_ := batchCheck_mem (by omega : batchCheck d1 = 0) (List.mem_of_getElem? ‹d1[k]? = some _›); have := ho_.2.1; have := ho_.2.2.1; have := encOp_len (last := last) ho_; have := (batch_len (by omega : batchCheck d1 = 0)).2; omega) | (have ho_ := batchCheck_mem (by omega : batchCheck d1 = 0) (List.mem_of_getElem? ‹d1[k]? = some _›); have := ho_.2.1; have := ho_.2.2.1; have := (batch_len (by omega : batchCheck d1 = 0)).2; simp only [List.length_append, List.length_nil, List.length_cons, List.length_take, List.length_drop] at *; omega))]; first | omega | (first | omega | (have ho_ := batchCheck_mem (by omega : batchCheck d1 = 0) (List.mem_of_getElem? ‹d1[k]? = some _›); have := ho_.2.1; have := ho_.2.2.1; have := encOp_len (last := last) ho_; have := (batch_len (by omega : batchCheck d1 = 0)).2; omega) | (have ho_ := batchCheck_mem (by omega : batchCheck d1 = 0) (List.mem_of_getElem? ‹d1[k]? = some _›); have := ho_.2.1; have := ho_.2.2.1; have := (batch_len (by omega : batchCheck d1 = 0)).2; simp only [List.length_append, List.length_nil, List.length_cons, List.length_take, List.length_drop] at *; omega)))) ?_
        refine VD.y rfl rfl (.inl rfl) (.fa rfl tst78 rfl) ?_
        refine VD.y rfl rfl (.inl rfl) (.ld1 109 rfl tk9 rfl (cellsAt_one rfl rfl)) ?_
        refine VD.y rfl rfl (.inl rfl) (.mv rfl) ?_
        refine VD.y rfl rfl (.inl rfl) (.slTLI (shared last x7.2.1) rfl rfl Try.underlying9 rfl (by first | omega | (have ho_ := batchCheck_mem (by omega : batchCheck d1 = 0) (List.mem_of_getElem? ‹d1[k]? = some _›); have := ho_.2.1; have := ho_.2.2.1; have := encOp_len (last := last) ho_; have := (batch_len (by omega : batchCheck d1 = 0)).2; omega) | (have ho_ := batchCheck_mem (by omega : batchCheck d1 = 0) (List.mem_of_getElem? ‹d1[k]? = some _›); have := ho_.2.1; have := ho_.2.2.1; have := (batch_len (by omega : batchCheck d1 = 0)).2; simp only [List.length_append, List.length_nil, List.length_cons, List.length_take, List.length_drop] at *; omega))) ?_
        refine VD.callN 129 rfl rfl (.inl rfl) fnOk54 rfl (fun _ h => h.sub [127, 109, 0]) (fun W hW => vAppend_ok W (OwnL.rd (Ow.ownl f27_0 rfl mnil) (hW.at (i := 127) rfl) (mle_nil _)) ((((x7.2.1.length : Nat) : Int) - ((shared last x7.2.1 : Nat) : Int)).toNat) (by first | omega | (have ho_ := batchCheck_mem (by omega : batchCheck d1 = 0) (List.mem_of_getElem? ‹d1[k]? = some _›); have := ho_.2.1; have := ho_.2.2.1; have := encOp_len (last := last) ho_; have := (batch_len (by omega : batchCheck d1 = 0)).2; omega) | (have ho_ := batchCheck_mem (by omega : batchCheck d1 = 0) (List.mem_of_getElem? ‹d1[k]? = some _›); have := ho_.2.1; have := ho_.2.2.1; have := (batch_len (by omega : batchCheck d1 = 0)).2; simp only [List.length_append, List.length_nil, List.length_cons, List.length_take, List.length_drop] at *; omega)) (by first | omega | (have ho_ := batchCheck_mem (by omega : batchCheck d1 = 0) (List.mem_of_getElem? ‹d1[k]? = some _›); have := ho_.2.1; have := ho_.2.2.1; have := encOp_len (last := last) ho_; have := (batch_len (by omega : batchCheck d1 = 0)).2; omega) | (have ho_ := batchCheck_mem (by omega : batchCheck d1 = 0) (List.mem_of_getElem? ‹d1[k]? = some _›); have := ho_.2.1; have := ho_.2.2.1; have := (batch_len (by omega : batchCheck d1 = 0)).2; simp only [List.length_append, List.length_nil, List.length_cons, List.length_take, List.length_drop] at *; omega))) (fun v29 m29 hv29 => ?_)
        obtain ⟨s29_0, rfl, f29_0⟩ := hv29
        have hfa30 := venc_len (x := ((((x7.2.1.length : Nat) : Int) - ((shared last x7.2.1 : Nat) : Int)).toNat)) (by first | omega | exact or64 (by assumption) _)
        obtain ⟨A29_0, c29_0, eq29_0, l29_0, k29_0⟩ := f29_0.slice
        subst eq29_0
        simp only [maxLen] at k29_0
        refine VD.nil rfl ?_ rfl
        obtain ⟨mo31, cs31, hM31, hA31, hC31⟩ := (Ow.ownl f29_0 rfl mnil)
        refine VO.app 129 rfl rfl rfl tsl25 tz5 rfl rfl hM31 hA31 (.str _ Try.underlying9 rfl) (byV_nice _) (by simp only [maxLen]; (first | omega | (have ho_ := batchCheck_mem (by omega : batchCheck d1 = 0) (List.mem_of_getElem? ‹d1[k]? = some _›); have := ho_.2.1; have := ho_.2.2.1; have := encOp_len (last := last) ho_; have := (batch_len (by omega : batchCheck d1 = 0)).2; omega) | (have ho_ := batchCheck_mem (by omega : batchCheck d1 = 0) (List.mem_of_getElem? ‹d1[k]? = some _›); have := ho_.2.1; have := ho_.2.2.1; have := (batch_len (by omega : batchCheck d1 = 0)).2; simp only [List.length_append, List.length_nil, List.length_cons, List.length_take, List.length_drop] at *; omega))) (by first | omega | (have ho_ := batchCheck_mem (by omega : batchCheck d1 = 0) (List.mem_of_getElem? ‹d1[k]? = some _›); have := ho_.2.1; have := ho_.2.2.1; have := encOp_len (last := last) ho_; have := (batch_len (by omega : batchCheck d1 = 0)).2; omega) | (have ho_ := batchCheck_mem (by omega : batchCheck d1 = 0) (List.mem_of_getElem? ‹d1[k]? = some _›); have := ho_.2.1; have := ho_.2.2.1; have := (batch_len (by omega : batchCheck d1 = 0)).2; simp only [List.length_append, List.length_nil, List.length_cons, List.length_take, List.length_drop] at *; omega)) (by decide) (fun v31 m31 hN31 => ?_)
        have ho31 : OwnL .byte m31 mnil v31 ((((out ++ [UInt8.ofNat 0]) ++ venc (shared last x7.2.1)) ++ venc ((((x7.2.1.length : Nat) : Int) - ((shared last x7.2.1 : Nat) : Int)).toNat)) ++ (x7.2.1.drop (shared last x7.2.1))) := OwnL.more hC31 hN31 (rd_str _ _)
        obtain ⟨A31, c31, rfl, l31, k31⟩ := ho31.slice
        simp only [maxLen] at k31
        refine VO.as ?_
        refine VO.k16 0 1 4 5 6 7 8 10 11 12 16 23 24 25 26 34 ?_
        refine outN ?_
        refine VC.seq ?_
        refine VC.rs ?_
        refine VO.y rfl (.fa rfl tst78 rfl) ?_
        refine VO.y rfl (.ld1 109 rfl tk4 rfl (cellsAt_one rfl rfl)) ?_
        refine VO.k17 0 1 4 5 6 7 8 10 11 12 16 23 24 25 26 34 56 ?_
        refine VC.condKF rfl hc12 ?_
        refine VC.skip ?_
        refine outN ?_
        refine VC.reg ?_
        refine VO.y rfl (.fa rfl tst78 rfl) ?_
        refine VO.y rfl (.ld1 109 rfl tk9 rfl (cellsAt_one rfl rfl)) ?_
        refine VO.as ?_
        refine VO.keep [129, 109, 0] [(129, m31), (109, mone g8 (.cells [Value.bool x7.1, str (x7.2.1), str (x7.2.2)].toArray 78 (0, 0))), (0, wm W)] (by kernel_rfl) ?_
        refine VO.k17 0 1 4 5 6 7 8 10 11 12 16 23 24 25 26 34 56 ?_
        refine outBN ?_
        refine outN ?_
        refine VC.reg ?_
        refine VO.y rfl (.add (c := ((k + 1 : Nat) : Int)) rfl rfl (by omega) ⟨by first | omega | (have ho_ := batchCheck_mem (by omega : batchCheck d1 = 0) (List.mem_of_getElem? ‹d1[k]? = some _›); have := ho_.2.1; have := ho_.2.2.1; have := encOp_len (last := last) ho_; have := (batch_len (by omega : batchCheck d1 = 0)).2; omega) | (have ho_ := batchCheck_mem (by omega : batchCheck d1 = 0) (List.mem_of_getElem? ‹d1[k]? = some _›); have := ho_.2.1; have := ho_.2.2.1; have := (batch_len (by omega : batchCheck d1 = 0)).2; simp only [List.length_append, List.length_nil, List.length_cons, List.length_take, List.length_drop] at *; omega), by first | omega | (have ho_ := batchCheck_mem (by omega : batchCheck d1 = 0) (List.mem_of_getElem? ‹d1[k]? = some _›); have := ho_.2.1; have := ho_.2.2.1; have := encOp_len (last := last) ho_; have := (batch_len (by omega : batchCheck d1 = 0)).2; omega) | (have ho_ := batchCheck_mem (by omega : batchCheck d1 = 0) (List.mem_of_getElem? ‹d1[k]? = some _›); have := ho_.2.1; have := ho_.2.2.1; have := (batch_len (by omega : batchCheck d1 = 0)).2; simp only [List.length_append, List.length_nil, List.length_cons, List.length_take, List.length_drop] at *; omega)⟩) ?_
        refine VO.mv ?_
        refine VO.k17 0 1 4 5 6 7 8 10 11 12 16 23 24 25 26 34 56 ?_
        exact outN ⟨⟨k + 1, x7.2.1, (((out ++ [UInt8.ofNat 0]) ++ venc (shared last x7.2.1)) ++ venc ((((x7.2.1.length : Nat) : Int) - ((shared last x7.2.1 : Nat) : Int)).toNat)) ++ (x7.2.1.drop (shared last x7.2.1)), A31, c31, m31⟩, ⟨by omega, by exact enc_step2 he ‹d1[k]? = some _› (by first | (rw [enc_put (by assumption)]; simp only [List.append_assoc, List.cons_append, List.nil_append, List.singleton_append, Int.toNat_sub]; rfl) | (rw [enc_del (by assumption)]; simp only [List.append_assoc, List.cons_append, List.nil_append, List.singleton_append, Int.toNat_sub]; rfl)), by exact enc_len2 (last := last) hlo (by omega) ‹d1[k]? = some _› (by first | (rw [enc_put (by assumption)]; simp only [List.append_assoc, List.cons_append, List.nil_append, List.singleton_append, Int.toNat_sub]; rfl) | (rw [enc_del (by assumption)]; simp only [List.append_assoc, List.cons_append, List.nil_append, List.singleton_append, Int.toNat_sub]; rfl)), by (have ho_ := batchCheck_mem (by omega : batchCheck d1 = 0) (List.mem_of_getElem? ‹d1[k]? = some _›); have := ho_.2.1; have := ho_.2.2.1; have := encOp_len (last := last) ho_; have := (batch_len (by omega : batchCheck d1 = 0)).2; omega), ho31⟩, by first | omega | (have ho_ := batchCheck_mem (by omega : batchCheck d1 = 0) (List.mem_of_getElem? ‹d1[k]? = some _›); have := ho_.2.1; have := ho_.2.2.1; have := encOp_len (last := last) ho_; have := (batch_len (by omega : batchCheck d1 = 0)).2; omega) | (have ho_ := batchCheck_mem (by omega : batchCheck d1 = 0) (List.mem_of_getElem? ‹d1[k]? = some _›); have := ho_.2.1; have := ho_.2.2.1; have := (batch_len (by omega : batchCheck d1 = 0)).2; simp only [List.length_append, List.length_nil, List.length_cons, List.length_take, List.length_drop] at *; omega), ⟨⟨rfl, rfl, rfl, rfl, rfl, rfl, rfl, rfl, rfl, rfl, rfl, trivial⟩, fun _ h => Inv.sub (Inv.num h 129 104 rfl) [104, 0]⟩⟩
    · -- FF
      refine VC.exit ?_
      refine outE ?_
      refine outE ?_
      refine outBB ?_
      refine outN ?_
      refine VC.rs ?_
      refine VO.mv ?_
      refine VO.as ?_
      refine VO.as ?_
      refine VO.k12 0 1 4 5 6 7 8 16 23 24 25 26 ?_
      refine VC.ret ?_
      refine ⟨_, _, res_run (rs := [.tmp 4, .tmp 5]) rfl (.tmp rfl (.tmp rfl .nil)), fun W_ hI => out_of (l := [out_m]) hI [104] rfl rfl (mle_refl _) (fun hS_ => ?_)⟩
      dsimp only [packV]
      have he0 : ((bAppend d0 d1).1 : Ty.Den (.sl .byte)) = out := by first | rfl | (first | (rw [bAppend_bad ‹_›] <;> rfl) | (rw [bAppend_good (by omega)]; dsimp only; rw [← he, List.drop_of_length_le (by omega)]; simp [encOps]))
      refine ⟨Value.slice out_A (out.length) (out_c), ?_, ?_⟩
      rotate_left
      · rw [he0]; exact (Ow.up (OwnL.ow h_out rfl) (hS_.1 _ (.head _)))
      all_goals (first | rfl | (first | (rw [bAppend_bad ‹_›] <;> rfl) | (rw [bAppend_good (by omega)] <;> rfl)))
end
section
set_option linter.unusedVariables false
theorem bRead_keys (B : Bytes) : ∀ o ∈ (bRead B).1, o.2.1.length ≤ 16 := by
  rcases bRead_cases B with h0 | h0
  · generalize hp : bRead B = p at *
    obtain ⟨m, n, f⟩ := p
    dsimp only at h0
    subst h0
    exact fun o ho => (batchCheck_mem (bRead_back hp).1 ho).2.1
  · rw [h0]; exact fun o ho => (by cases ho)
end
section
set_option linter.unusedVariables false
def zC : DCommit := (0, 0, [])
def cEnc (c : DCommit) : Bytes := venc c.1.toNat ++ (venc c.2.1.toNat ++ batchEnc c.2.2)
def cEncode (c : DCommit) : Bytes × Int := if cCheck c = 0 then (cEnc c, 0) else ([], cCheck c)
def cPart (B : Bytes) : DCommit := ((sX B 1048576 : Int), (sX (B.drop (sN B 1048576)) 1048576 : Int), (bRead (B.drop (sN B 1048576 + sN (B.drop (sN B 1048576)) 1048576))).1)
def cDecode (B : Bytes) : DCommit × Int :=
  if sE B 1048576 = 0 ∧ sE (B.drop (sN B 1048576)) 1048576 = 0 ∧ (bRead (B.drop (sN B 1048576 + sN (B.drop (sN B 1048576)) 1048576))).2.2 = 0 ∧
    ((sN B 1048576 : Int) + (sN (B.drop (sN B 1048576)) 1048576 : Int) + (bRead (B.drop (sN B 1048576 + sN (B.drop (sN B 1048576)) 1048576))).2.1 = B.length) ∧ cCheck (cPart B) = 0 then (cPart B, 0) else (zC, 5)
theorem s_there {x : Nat} {m : Int} (h : (x : Int) ≤ m) (hm : m ≤ 9223372036854775807) (r : Bytes) : sX (venc x ++ r) m = x ∧ sN (venc x ++ r) m = (venc x).length ∧ sE (venc x ++ r) m = 0 := by
  have hs : vsmall (venc x ++ r) m = some (x, (venc x).length) := by unfold vsmall; rw [vread_there (by omega)]; exact if_pos h
  unfold sX sN sE; rw [hs]; exact ⟨rfl, rfl, rfl⟩
theorem s_back {B : Bytes} {m : Int} (h : sE B m = 0) : B = venc (sX B m) ++ B.drop (sN B m) := by
  unfold sE sX sN vsmall at *
  cases hv : vread B with
  | none => rw [hv] at h; cases h
  | some p =>
    obtain ⟨y, n⟩ := p
    rw [hv] at h
    dsimp only at h ⊢
    by_cases hy : (y : Int) ≤ m
    · rw [if_pos hy]; exact (vread_back hv).1
    · rw [if_neg hy] at h; cases h
theorem cCheck_zero {c : DCommit} (h : cCheck c = 0) : 1 ≤ c.1 ∧ c.1 ≤ 1048576 ∧ 1 ≤ c.2.1 ∧ c.2.1 ≤ 1048576 ∧ batchCheck c.2.2 = 0 := by
  unfold cCheck at h
  split at h
  · split at h
    · exact ⟨by omega, by omega, by omega, by omega, h⟩
    · cases h
  · cases h
theorem cDecode_there {c : DCommit} (h : cCheck c = 0) : cDecode (cEnc c) = (c, 0) := by
  obtain ⟨h1, h2, h3, h4, h5⟩ := cCheck_zero h
  obtain ⟨a1, a2, a3⟩ := s_there (x := c.1.toNat) (m := 1048576) (by omega) (by omega) (venc c.2.1.toNat ++ batchEnc c.2.2)
  obtain ⟨b1, b2, b3⟩ := s_there (x := c.2.1.toNat) (m := 1048576) (by omega) (by omega) (batchEnc c.2.2)
  have r := bRead_there h5 []
  rw [List.append_nil] at r
  have hd : (cEnc c).drop (venc c.1.toNat).length = venc c.2.1.toNat ++ batchEnc c.2.2 := by rw [cEnc, List.drop_left]
  have hd2 : (cEnc c).drop ((venc c.1.toNat).length + (venc c.2.1.toNat).length) = batchEnc c.2.2 := by rw [← List.drop_drop, hd, List.drop_left]
  have hp : cPart (cEnc c) = c := by
    unfold cPart
    rw [show sX (cEnc c) 1048576 = c.1.toNat from a1, show sN (cEnc c) 1048576 = _ from a2, hd, b1, b2, hd2, r]
    exact Prod.ext (by simp only; omega) (Prod.ext (by simp only; omega) rfl)
  unfold cDecode
  rw [hp, show sE (cEnc c) 1048576 = 0 from a3, show sN (cEnc c) 1048576 = _ from a2, hd, b2, b3, hd2, r]
  rw [if_pos ⟨rfl, rfl, rfl, by simp only [cEnc, List.length_append]; omega, h⟩]
theorem cDecode_back {B : Bytes} (h : (cDecode B).2 = 0) : cCheck (cDecode B).1 = 0 ∧ B = cEnc (cDecode B).1 := by
  unfold cDecode at h ⊢
  split at h
  · rename_i hh
    rw [if_pos hh]
    obtain ⟨h1, h2, h3, h4, h5⟩ := hh
    refine ⟨h5, ?_⟩
    have e1 := s_back h1
    have e2 := s_back h2
    generalize hr : bRead (B.drop (sN B 1048576 + sN (B.drop (sN B 1048576)) 1048576)) = p at *
    obtain ⟨l, n, f⟩ := p
    dsimp only at h3 h4
    subst h3
    obtain ⟨k1, k2, k3, k4⟩ := bRead_back hr
    have hl : (B.drop (sN B 1048576 + sN (B.drop (sN B 1048576)) 1048576)).length ≤ n.toNat := by simp only [List.length_drop]; omega
    rw [List.drop_of_length_le hl, List.append_nil, ← List.drop_drop] at k4
    unfold cEnc cPart
    rw [hr]
    simp only [Int.toNat_natCast]
    rw [← k4, ← e2, ← e1]
  · cases h
theorem cEncode_bad {c : DCommit} (h : ¬ cCheck c = 0) : cEncode c = ([], cCheck c) := if_neg h
theorem cEncode_good {c : DCommit} (h : ¬ ¬ cCheck c = 0) : cEncode c = bAppend (venc c.1.toNat ++ venc c.2.1.toNat) c.2.2 := by
  have h' := Decidable.not_not.1 h
  unfold cEncode bAppend cEnc
  rw [if_pos h', if_pos (cCheck_zero h').2.2.2.2, List.append_assoc]
theorem cEncode_len (c : DCommit) : (cEncode c).1.length ≤ 700 := by
  by_cases h : cCheck c = 0
  · obtain ⟨h1, h2, h3, h4, h5⟩ := cCheck_zero h
    rw [cEncode_good (fun hn => hn h)]
    have := bAppend_len (venc c.1.toNat ++ venc c.2.1.toNat) c.2.2
    have := venc_len (x := c.1.toNat) (by omega)
    have := venc_len (x := c.2.1.toNat) (by omega)
    simp only [List.length_append] at *; omega
  · rw [cEncode_bad h]; simp
theorem cDecode_fits (B : Bytes) : (cDecode B).1.2.2.length ≤ 8 ∧ ∀ o ∈ (cDecode B).1.2.2, o.2.1.length ≤ 16 := by
  unfold cDecode
  split
  · exact ⟨(bRead_fits _).1, bRead_keys _⟩
  · exact ⟨by decide, fun o h => by cases h⟩
theorem cDecode_e1 {B : Bytes} (h : ¬ sE B 1048576 = 0) : cDecode B = (zC, 5) := if_neg fun hh => h hh.1
theorem cDecode_e2 {B : Bytes} (h : ¬ sE (B.drop (sN B 1048576)) 1048576 = 0) : cDecode B = (zC, 5) := if_neg fun hh => h hh.2.1
theorem cDecode_e3 {B : Bytes} (h : ¬ (bRead (B.drop (sN B 1048576 + sN (B.drop (sN B 1048576)) 1048576))).2.2 = 0) : cDecode B = (zC, 5) := if_neg fun hh => h hh.2.2.1
theorem cDecode_e4 {B : Bytes} (h : ¬ ((sN B 1048576 : Int) + (sN (B.drop (sN B 1048576)) 1048576 : Int) + (bRead (B.drop (sN B 1048576 + sN (B.drop (sN B 1048576)) 1048576))).2.1 = B.length)) : cDecode B = (zC, 5) := if_neg fun hh => h hh.2.2.2.1
theorem cDecode_e5 {B : Bytes} (h : ¬ cCheck (cPart B) = 0) : cDecode B = (zC, 5) := if_neg fun hh => h hh.2.2.2.2
theorem cDecode_ok {B : Bytes} (h1 : ¬ ¬ sE B 1048576 = 0) (h2 : ¬ ¬ sE (B.drop (sN B 1048576)) 1048576 = 0) (h3 : ¬ ¬ (bRead (B.drop (sN B 1048576 + sN (B.drop (sN B 1048576)) 1048576))).2.2 = 0)
    (h4 : ¬ ¬ ((sN B 1048576 : Int) + (sN (B.drop (sN B 1048576)) 1048576 : Int) + (bRead (B.drop (sN B 1048576 + sN (B.drop (sN B 1048576)) 1048576))).2.1 = B.length)) (h5 : ¬ ¬ cCheck (cPart B) = 0) : cDecode B = (cPart B, 0) :=
  if_pos ⟨Decidable.not_not.1 h1, Decidable.not_not.1 h2, Decidable.not_not.1 h3, Decidable.not_not.1 h4, Decidable.not_not.1 h5⟩
end
section
set_option linter.unusedVariables false
def ofC (e n : Int) : DCommit := (e, n, [(true, [97], [49])])
theorem none_iff {e n i : Int} {l : List DCommit} : ((cFollowsAt e n i l).1 = 0 ∧ (cFollowsAt e n i l).2 = 0) ↔ (cFollowsAt e n i l).1 = 0 := ⟨fun h => h.1, fun h => by rw [follows_zero h]; exact ⟨rfl, rfl⟩⟩
end
section
set_option linter.unusedVariables false
theorem Rd.relen {e : Ty} {m : Mem} {A : Option Addr} {l k c : Nat} {xs : List e.Den} (h : Rd (.sl e) m [.slice A l c] xs) (hk : k = xs.length) : Rd (.sl e) m [.slice A k c] xs := by
  obtain ⟨A', c', h1, h2⟩ := h
  simp only [List.cons.injEq, Value.slice.injEq, and_true] at h1
  obtain ⟨rfl, _, rfl⟩ := h1
  exact ⟨_, _, by rw [hk], h2⟩
theorem OwAll.map {α β : Type} {R : Mem → List Value → α → Prop} {S : Mem → List Value → β → Prop} (f : α → β) (hf : ∀ m c x, R m c x → S m c (f x)) : ∀ {xs : List α} {m : Mem} {cs : List Value}, OwAll R m cs xs → OwAll S m cs (xs.map f)
  | [], _, _, h => h
  | _ :: _, _, _, ⟨c1, c2, m1, m2, h1, h2, h3, h4, h5, h6⟩ => ⟨c1, c2, m1, m2, h1, h2, h3, h4, hf _ _ _ h5, h6.map f hf⟩
theorem VO.apart {P : Program} {n : Nat} {w0 : World} {σ : Env} {Ω : Ctx} {ops : Array Oper} {K : Env → Ctx → Prop} {r : List Oper} (ids : List Nat) {l : List Mem} (hg : cgets Ω ids = some l) (h : l.Pairwise mdj → VO P n w0 ops r σ Ω K) : VO P n w0 ops r σ Ω K :=
  fun Q hQ a W he hi => h (hi.gets hg).1 Q hQ a W he hi
theorem VD.apart {P : Program} {n : Nat} {w0 : World} {σ : Env} {Ω ΩS : Ctx} {ops : Array Oper} {K : Env → Ctx → Prop} {t : Nat} {ss : List (Nat × Bool)} (ids : List Nat) {l : List Mem} (hg : cgets Ω ids = some l) (h : l.Pairwise mdj → VD P n w0 ops ΩS t ss σ Ω K) : VD P n w0 ops ΩS t ss σ Ω K :=
  fun Q hn hQ listed a W he hi => h (hi.gets hg).1 Q hn hQ listed a W he hi
theorem VD.gbsl {P : Program} {n : Nat} {w0 : World} {σ : Env} {Ω ΩS : Ctx} {ops : Array Oper} {t : Nat} {K : Env → Ctx → Prop} {ty : TypeId} {pos : String} {af : Array Edge} {i : Nat} {rr : List (Nat × Bool)} {dd : Nat} {t' e : TypeId} {s b len : Nat} {l : List (Nat × Operand)} {ps : List (Nat × Value)} {z cs : List Value} {jj : Nat} {b' : Bool} (j : Nat) (hd : Nat.blt dd n = true) (ho : ops[i]? = some ⟨some dd, .buildSlice t' len l.toArray, ty, pos, af, some (jj, b')⟩) (hg : gyes σ ops jj b')
    (hl : evp σ l = some ps) (ht : tsl P t' = some (e, s, b)) (hz : tz P e = some z)
    (hsmall : Nat.ble (len * s) 16777216 = true) (hb : bld (fun i => some (i * s, s)) ((List.range (len * s)).map fun j => z.toArray[j % z.toArray.size]!) ps = some cs) (hS : ∀ W, Inv w0 Ω W → Inv w0 ΩS W)
    (h : ∀ g, VD P n w0 ops ΩS t rr ((dd, .slice (some ⟨g, 0, none⟩) len len) :: σ) ((j, mone g (.cells cs.toArray e (0, 0))) :: Ω) K) : VD P n w0 ops ΩS t ((i, false) :: rr) σ Ω K :=
  VD.s (fun v => (dd, v) :: σ) ho (fun v _ he => he.put hd v) (.inr ⟨_, _, rfl, hg⟩) (Stp.bsl j hl ht hz hsmall hb) (fun _ _ ⟨_, _, hΩ⟩ W hW => hS W (by subst hΩ; exact hW.tl)) (fun _ _ ⟨g, hv, hΩ⟩ => hv ▸ hΩ ▸ h g)
abbrev Hd := Option Addr × Nat × Nat
def hv (h : Hd) : Value := .slice h.1 h.2.1 h.2.2
/-- two numbers and a list; two numbers and a list's header. -/
abbrev tC (e : Ty) : Ty := .pair (.int .i64) (.pair (.int .i64) (.sl e))
abbrev DH := Int × Int × Hd
/-- this one, but for where the ops are. -/
def Pc (e : Ty) (m : Mem) (h : DH) (x : (tC e).Den) : Prop := h.1 = x.1 ∧ h.2.1 = x.2.1 ∧ Rd (.sl e) m [hv h.2.2] x.2.2
inductive F2 {α β : Type} (R : α → β → Prop) : List α → List β → Prop
  | nil : F2 R [] []
  | cons {a : α} {b : β} {l : List α} {r : List β} (h : R a b) (t : F2 R l r) : F2 R (a :: l) (b :: r)
theorem F2.mono {α β : Type} {R S : α → β → Prop} {l : List α} {r : List β} (h : F2 R l r) (hs : ∀ a b, R a b → S a b) : F2 S l r := by
  induction h with
  | nil => exact .nil
  | cons h _ ih => exact .cons (hs _ _ h) ih
theorem F2.len {α β : Type} {R : α → β → Prop} {l : List α} {r : List β} (h : F2 R l r) : l.length = r.length := by
  induction h with
  | nil => rfl
  | cons _ _ ih => simp [ih]
theorem F2.get {α β : Type} {R : α → β → Prop} {l : List α} {r : List β} (h : F2 R l r) {i : Nat} {a : α} (ha : l[i]? = some a) : ∃ b, r[i]? = some b ∧ R a b := by
  induction h generalizing i with
  | nil => simp at ha
  | cons h _ ih =>
    cases i with
    | zero => simp at ha; subst ha; exact ⟨_, rfl, h⟩
    | succ i => simp at ha; simpa using ih ha
variable {e : Ty}
theorem Pc.mono {m m' : Mem} {h : DH} {x : (tC e).Den} (hp : Pc e m h x) (hm : mle m m') : Pc e m' h x := ⟨hp.1, hp.2.1, hp.2.2.mono hm⟩
theorem OwAll.len {α : Type} {R : Mem → List Value → α → Prop} {k : Nat} (hk : ∀ m c x, R m c x → c.length = k) : ∀ {xs : List α} {m : Mem} {cs : List Value}, OwAll R m cs xs → cs.length = xs.length * k
  | [], _, _, h => by rw [show _ = [] from h]; simp
  | _ :: r, _, _, ⟨c1, c2, m1, m2, h1, _, _, _, h5, h6⟩ => by
    rw [h1, List.length_append, hk _ _ _ h5, OwAll.len hk h6, List.length_cons, Nat.add_mul]; omega
end
section
set_option linter.unusedVariables false
set_option linter.unusedSimpArgs false
set_option maxRecDepth 4000
theorem fnOk112 : fnOk Try.prog 112 = true := by kernel_rfl
theorem fnOk88 : fnOk Try.prog 88 = true := by kernel_rfl
theorem cEncode_ok_ (W : World) {v0 : List Value} {d0 : DCommit} (h0 : Rd TCommit (wm W) v0 d0) : CallR Try.prog 56 [.agg v0.toArray] W (mnil) (fun v m' => ∃ (s0 : Value), v = .tuple #[s0, .int .i64 ((cEncode d0).2)] ∧ Ow (.sl .byte) m' [s0] ((cEncode d0).1)) := by
  obtain ⟨p0_A2, p0_c2, rfl, p0_0, p0_1, p0_2⟩ := open_Commit (x0 := d0.1) (x1 := d0.2.1) (x2 := d0.2.2) h0
  simp only [inK] at p0_0
  simp only [inK] at p0_1
  have p0_r2 := Rd.room p0_2
  refine CallR.ofA (n := 23) Try.func56 rfl rfl rfl ?_
  refine VC.rs ?_
  refine VO.box (cs := [Value.int .i64 (d0.1), Value.int .i64 (d0.2.1), Value.slice p0_A2 (d0.2.2.length) (p0_c2)]) 102 rfl rfl rfl (fun g1 => ?_)
  refine VO.as ?_
  refine VO.as ?_
  refine VO.k4 0 1 2 3 ?_
  refine VC.seq ?_
  refine VC.rs ?_
  refine VO.y rfl (.ldA 102 rfl tk32 rfl (cellsAt_one rfl rfl)) ?_
  refine VO.callN 103 rfl fnOk86 rfl (fun W hW => cCheck_ok_ W (Rd.mono h0 (hW.at (i := 0) rfl))) (fun v3 m3 hv3 => ?_)
  subst hv3
  have hfa4 := cCheck_range d0
  refine VO.as ?_
  refine VO.k5 0 1 2 3 4 ?_
  refine VC.rs ?_
  refine VO.mv ?_
  refine VO.y rfl (.neq rfl rfl) ?_
  refine VO.keep [102, 0] [(102, mone g1 (.cells [Value.int .i64 (d0.1), Value.int .i64 (d0.2.1), Value.slice p0_A2 (d0.2.2.length) (p0_c2)].toArray 32 (0, 0))), (0, wm W)] (by kernel_rfl) ?_
  refine VO.k6 0 1 2 3 4 8 ?_
  refine VC.cond rfl (fun hc5 => ?_) (fun hc5 => ?_)
  · -- T
    refine VC.rs ?_
    refine VO.mv ?_
    refine VO.as ?_
    refine VO.as ?_
    refine VO.k6 0 1 2 3 4 8 ?_
    refine VC.ret ?_
    refine outR ?_
    refine ⟨_, _, res_run (rs := [.tmp 2, .tmp 3]) rfl (.tmp rfl (.tmp rfl .nil)), fun W_ hI => out_of (l := []) hI [] rfl rfl (mle_refl _) (fun hS_ => ?_)⟩
    dsimp only [packV]
    have he0 : ((cEncode d0).1 : Ty.Den (.sl .byte)) = [] := by first | rfl | (first | (rw [cEncode_bad (by assumption)]; done) | (rw [cEncode_good (by assumption)]; done))
    refine ⟨Value.slice none (0) (0), ?_, ?_⟩
    rotate_left
    · rw [he0]; exact (Ow.nil _ _)
    all_goals (first | rfl | (first | (rw [cEncode_bad (by assumption)] <;> rfl) | (rw [cEncode_good (by assumption)] <;> rfl)))
  · -- F
    refine VC.skip ?_
    refine outN ?_
    refine VC.seq ?_
    refine VC.regD _ 13 [(0, true), (1, true), (2, true), (4, true), (5, true), (6, true), (8, true), (9, true), (3, false), (7, false), (10, false), (11, true), (12, true)] follows (by kernel_rfl) (fun _ h => h.sub [102, 0]) ?_
    refine VD.y rfl rfl (.inl rfl) (.fa rfl tst32 rfl) ?_
    refine VD.y rfl rfl (.inl rfl) (.ld1 102 rfl tk3 rfl (cellsAt_one rfl rfl)) ?_
    refine VD.y rfl rfl (.inl rfl) (.cvI (c := ((d0.1).toNat : Int)) rfl ⟨_, Try.underlying3⟩ Try.underlying82 (by rw [IntWalk.u64_in _ (by first | omega | (simp only [List.length_append, List.length_nil, List.length_cons, List.length_take, List.length_drop] at *; omega) | (have h_ := cCheck_zero (Decidable.not_not.1 ‹¬ ¬ cCheck d0 = 0›); omega) | (have h_ := cCheck_zero (Decidable.not_not.1 ‹¬ ¬ cCheck d0 = 0›); simp only [List.length_append, List.length_nil, List.length_cons] at *; omega))]; first | omega | (first | omega | (simp only [List.length_append, List.length_nil, List.length_cons, List.length_take, List.length_drop] at *; omega) | (have h_ := cCheck_zero (Decidable.not_not.1 ‹¬ ¬ cCheck d0 = 0›); omega) | (have h_ := cCheck_zero (Decidable.not_not.1 ‹¬ ¬ cCheck d0 = 0›); simp only [List.length_append, List.length_nil, List.length_cons] at *; omega)))) ?_
    refine VD.y rfl rfl (.inl rfl) (.fa rfl tst32 rfl) ?_
    refine VD.y rfl rfl (.inl rfl) (.ld1 102 rfl tk3 rfl (cellsAt_one rfl rfl)) ?_
    refine VD.y rfl rfl (.inl rfl) (.cvI (c := ((d0.2.1).toNat : Int)) rfl ⟨_, Try.underlying3⟩ Try.underlying82 (by rw [IntWalk.u64_in _ (by first | omega | (simp only [List.length_append, List.length_nil, List.length_cons, List.length_take, List.length_drop] at *; omega) | (have h_ := cCheck_zero (Decidable.not_not.1 ‹¬ ¬ cCheck d0 = 0›); omega) | (have h_ := cCheck_zero (Decidable.not_not.1 ‹¬ ¬ cCheck d0 = 0›); simp only [List.length_append, List.length_nil, List.length_cons] at *; omega))]; first | omega | (first | omega | (simp only [List.length_append, List.length_nil, List.length_cons, List.length_take, List.length_drop] at *; omega) | (have h_ := cCheck_zero (Decidable.not_not.1 ‹¬ ¬ cCheck d0 = 0›); omega) | (have h_ := cCheck_zero (Decidable.not_not.1 ‹¬ ¬ cCheck d0 = 0›); simp only [List.length_append, List.length_nil, List.length_cons] at *; omega)))) ?_
    refine VD.y rfl rfl (.inl rfl) (.fa rfl tst32 rfl) ?_
    refine VD.y rfl rfl (.inl rfl) (.ld1 102 rfl tk30 rfl (cellsAt_one rfl rfl)) ?_
    refine VD.callN 106 rfl rfl (.inl rfl) fnOk54 rfl (fun _ h => h.sub [102, 0]) (fun W hW => vAppend_ok W (Rd.nil _ _ none 0 (Nat.zero_le _)) ((d0.1).toNat) (by first | omega | (simp only [List.length_append, List.length_nil, List.length_cons, List.length_take, List.length_drop] at *; omega) | (have h_ := cCheck_zero (Decidable.not_not.1 ‹¬ ¬ cCheck d0 = 0›); omega) | (have h_ := cCheck_zero (Decidable.not_not.1 ‹¬ ¬ cCheck d0 = 0›); simp only [List.length_append, List.length_nil, List.length_cons] at *; omega)) (by first | omega | (simp only [List.length_append, List.length_nil, List.length_cons, List.length_take, List.length_drop] at *; omega) | (have h_ := cCheck_zero (Decidable.not_not.1 ‹¬ ¬ cCheck d0 = 0›); omega) | (have h_ := cCheck_zero (Decidable.not_not.1 ‹¬ ¬ cCheck d0 = 0›); simp only [List.length_append, List.length_nil, List.length_cons] at *; omega))) (fun v6 m6 hv6 => ?_)
    obtain ⟨s6_0, rfl, f6_0⟩ := hv6
    have hfa7 := venc_len (x := ((d0.1).toNat)) (by first | omega | exact or64 (by assumption) _)
    simp only [List.nil_append] at f6_0
    obtain ⟨A6_0, c6_0, eq6_0, l6_0, k6_0⟩ := f6_0.slice
    subst eq6_0
    simp only [maxLen] at k6_0
    refine VD.callN 108 rfl rfl (.inl rfl) fnOk54 rfl (fun _ h => h.sub [102, 0]) (fun W hW => vAppend_ok W (OwnL.rd (Ow.ownl f6_0 rfl mnil) (hW.at (i := 106) rfl) (mle_nil _)) ((d0.2.1).toNat) (by first | omega | (simp only [List.length_append, List.length_nil, List.length_cons, List.length_take, List.length_drop] at *; omega) | (have h_ := cCheck_zero (Decidable.not_not.1 ‹¬ ¬ cCheck d0 = 0›); omega) | (have h_ := cCheck_zero (Decidable.not_not.1 ‹¬ ¬ cCheck d0 = 0›); simp only [List.length_append, List.length_nil, List.length_cons] at *; omega)) (by first | omega | (simp only [List.length_append, List.length_nil, List.length_cons, List.length_take, List.length_drop] at *; omega) | (have h_ := cCheck_zero (Decidable.not_not.1 ‹¬ ¬ cCheck d0 = 0›); omega) | (have h_ := cCheck_zero (Decidable.not_not.1 ‹¬ ¬ cCheck d0 = 0›); simp only [List.length_append, List.length_nil, List.length_cons] at *; omega))) (fun v8 m8 hv8 => ?_)
    obtain ⟨s8_0, rfl, f8_0⟩ := hv8
    have hfa9 := venc_len (x := ((d0.2.1).toNat)) (by first | omega | exact or64 (by assumption) _)
    obtain ⟨A8_0, c8_0, eq8_0, l8_0, k8_0⟩ := f8_0.slice
    subst eq8_0
    simp only [maxLen] at k8_0
    refine VD.callN 110 rfl rfl (.inl rfl) fnOk88 rfl (fun _ h => h.sub [102, 0]) (fun W hW => bAppend_ok W (OwnL.rd (Ow.ownl f8_0 rfl mnil) (hW.at (i := 108) rfl) (mle_nil _)) (Rd.mono p0_2 (hW.at (i := 0) rfl)) (by first | omega | (simp only [List.length_append, List.length_nil, List.length_cons, List.length_take, List.length_drop] at *; omega) | (have h_ := cCheck_zero (Decidable.not_not.1 ‹¬ ¬ cCheck d0 = 0›); omega) | (have h_ := cCheck_zero (Decidable.not_not.1 ‹¬ ¬ cCheck d0 = 0›); simp only [List.length_append, List.length_nil, List.length_cons] at *; omega))) (fun v10 m10 hv10 => ?_)
    obtain ⟨s10_0, rfl, f10_0⟩ := hv10
    have hfa11 := bAppend_len ((venc ((d0.1).toNat)) ++ venc ((d0.2.1).toNat)) d0.2.2
    obtain ⟨A10_0, c10_0, eq10_0, l10_0, k10_0⟩ := f10_0.slice
    subst eq10_0
    simp only [maxLen] at k10_0
    refine VD.y rfl rfl (.inl rfl) (.ext rfl rfl) ?_
    refine VD.y rfl rfl (.inl rfl) (.ext rfl rfl) ?_
    refine VD.nil rfl ?_ rfl
    refine VO.as ?_
    refine VO.as ?_
    refine VO.k6 0 1 2 3 4 8 ?_
    refine outN ?_
    refine VC.ret ?_
    refine ⟨_, _, res_run (rs := [.tmp 2, .tmp 3]) rfl (.tmp rfl (.tmp rfl .nil)), fun W_ hI => out_of (l := [m10]) hI [110] rfl rfl (mle_refl _) (fun hS_ => ?_)⟩
    dsimp only [packV]
    have he0 : ((cEncode d0).1 : Ty.Den (.sl .byte)) = (bAppend ((venc ((d0.1).toNat)) ++ venc ((d0.2.1).toNat)) d0.2.2).1 := by first | rfl | (first | (rw [cEncode_bad (by assumption)]; done) | (rw [cEncode_good (by assumption)]; done))
    refine ⟨Value.slice A10_0 (((bAppend ((venc ((d0.1).toNat)) ++ venc ((d0.2.1).toNat)) d0.2.2).1).length) (c10_0), ?_, ?_⟩
    rotate_left
    · rw [he0]; exact (Ow.up (OwnL.ow (Ow.ownl f10_0 rfl mnil) rfl) (hS_.1 _ (.head _)))
    all_goals (first | rfl | (first | (rw [cEncode_bad (by assumption)] <;> rfl) | (rw [cEncode_good (by assumption)] <;> rfl)))
theorem cDecode_ok_ (W : World) {v0 : Value} {d0 : List UInt8} (h0 : Rd (.sl .byte) (wm W) [v0] d0) : CallR Try.prog 93 [v0] W (mnil) (fun v m' => ∃ (s0 : List Value), v = .tuple #[.agg s0.toArray, .int .i64 ((cDecode d0).2)] ∧ Ow TCommit m' s0 ((cDecode d0).1)) := by
  obtain ⟨A0, c0, rfl, l0, k0⟩ := h0.slice
  simp only [maxLen] at k0
  refine CallR.ofA (n := 65) Try.func93 rfl rfl rfl ?_
  refine VC.rs ?_
  refine VO.alloc 102 rfl tz32 (fun g1 => ?_)
  refine VO.as ?_
  refine VO.k3 0 2 3 ?_
  refine VC.rs ?_
  refine VO.mv ?_
  refine VO.callN 103 rfl fnOk111 rfl (fun W hW => vSmall_ok W (Rd.mono h0 (hW.at (i := 0) rfl)) 1048576 bdk) (fun v3 m3 hv3 => ?_)
  subst hv3
  have hfa4 := s_bounds d0 1048576 (by omega)
  refine VO.mv ?_
  refine VO.y rfl (.ext rfl rfl) ?_
  refine VO.y rfl (.ext rfl rfl) ?_
  refine VO.y rfl (.ext rfl rfl) ?_
  refine VO.as ?_
  refine VO.as ?_
  refine VO.as ?_
  refine VO.k6 0 2 3 4 5 6 ?_
  refine VC.seq ?_
  refine VC.rs ?_
  refine VO.mv ?_
  refine VO.y rfl (.neq rfl rfl) ?_
  refine VO.keep [102, 0] [(102, mone g1 (.cells [Value.int .i64 (0), Value.int .i64 (0), Value.slice none (0) (0)].toArray 32 (0, 0))), (0, wm W)] (by kernel_rfl) ?_
  refine VO.k7 0 2 3 4 5 6 19 ?_
  refine VC.cond rfl (fun hc5 => ?_) (fun hc5 => ?_)
  · -- T
    refine VC.rs ?_
    refine VO.y rfl (.bst (cs := [Value.int .i64 (0), Value.int .i64 (0), Value.slice none (0) (0)]) rfl tst32 tz32 rfl) ?_
    refine VO.store (k := 3) (c' := [Value.int .i64 (0), Value.int .i64 (0), Value.slice none (0) (0)]) 102 rfl rfl (.inl tk32) rfl rfl rfl rfl rfl ?_
    refine VO.as ?_
    refine VO.k7 0 2 3 4 5 6 19 ?_
    refine VC.ret ?_
    refine outR ?_
    refine ⟨_, _, res_run (rs := [.cell 2 32, .tmp 3]) rfl (.agg 102 rfl tk32 rfl ⟨_, _, _, mone_self _ _, Nat.le_of_ble_eq_true rfl, rfl⟩ (.tmp rfl .nil)), fun W_ hI => out_of (l := []) hI [] rfl rfl (mle_refl _) (fun hS_ => ?_)⟩
    dsimp only [packV]
    have he0 : ((cDecode d0).1 : Ty.Den TCommit) = (0, 0, []) := by first | rfl | (first | (rw [cDecode_e1 (by assumption)] <;> rfl) | (rw [cDecode_e2 (by assumption)] <;> rfl) | (rw [cDecode_e3 (by assumption)] <;> rfl) | (rw [cDecode_e4 (by assumption)] <;> rfl) | (rw [cDecode_e5 (by assumption)] <;> rfl) | (rw [cDecode_ok (by assumption) (by assumption) (by assumption) (by assumption) (by assumption)] <;> rfl))
    refine ⟨[Value.int .i64 (0), Value.int .i64 (0), Value.slice none (0) (0)], ?_, ?_⟩
    rotate_left
    · rw [he0]; exact (mkO_Commit 0 0 [] (Seps.nilAt 0 hS_) bdk bdk (Ow.nil _ _))
    all_goals (first | rfl | (first | (rw [cDecode_e1 (by assumption)] <;> rfl) | (rw [cDecode_e2 (by assumption)] <;> rfl) | (rw [cDecode_e3 (by assumption)] <;> rfl) | (rw [cDecode_e4 (by assumption)] <;> rfl) | (rw [cDecode_e5 (by assumption)] <;> rfl) | (rw [cDecode_ok (by assumption) (by assumption) (by assumption) (by assumption) (by assumption)] <;> rfl)))
  · -- F
    refine VC.skip ?_
    refine outN ?_
    refine VC.rs ?_
    refine VO.mv ?_
    refine VO.mv ?_
    obtain ⟨A6, hA6, hs6⟩ := h0.drop 1 (sN d0 1048576) rfl bd
    refine VO.y rfl (.slLI (sN d0 1048576) A6 rfl rfl tsl25 rfl hA6 bd) ?_
    refine VO.callN 107 rfl fnOk111 rfl (fun W hW => vSmall_ok W (Rd.mono hs6 (hW.at (i := 0) rfl)) 1048576 bdk) (fun v7 m7 hv7 => ?_)
    subst hv7
    have hfa8 := s_bounds (d0.drop (sN d0 1048576)) 1048576 (by omega)
    refine VO.mv ?_
    refine VO.y rfl (.ext rfl rfl) ?_
    refine VO.y rfl (.ext rfl rfl) ?_
    refine VO.y rfl (.ext rfl rfl) ?_
    refine VO.as ?_
    refine VO.as ?_
    refine VO.as ?_
    refine VO.k9 0 2 3 4 5 6 7 8 19 ?_
    refine VC.seq ?_
    refine VC.rs ?_
    refine VO.mv ?_
    refine VO.y rfl (.neq rfl rfl) ?_
    refine VO.k10 0 2 3 4 5 6 7 8 19 30 ?_
    refine VC.cond rfl (fun hc9 => ?_) (fun hc9 => ?_)
    · -- FT
      refine VC.rs ?_
      refine VO.y rfl (.bst (cs := [Value.int .i64 (0), Value.int .i64 (0), Value.slice none (0) (0)]) rfl tst32 tz32 rfl) ?_
      refine VO.store (k := 3) (c' := [Value.int .i64 (0), Value.int .i64 (0), Value.slice none (0) (0)]) 102 rfl rfl (.inl tk32) rfl rfl rfl rfl rfl ?_
      refine VO.as ?_
      refine VO.keep [102, 0] [(102, mone g1 (.cells [Value.int .i64 (0), Value.int .i64 (0), Value.slice none (0) (0)].toArray 32 (0, 0))), (0, wm W)] (by kernel_rfl) ?_
      refine VO.k10 0 2 3 4 5 6 7 8 19 30 ?_
      refine VC.ret ?_
      refine outR ?_
      refine ⟨_, _, res_run (rs := [.cell 2 32, .tmp 3]) rfl (.agg 102 rfl tk32 rfl ⟨_, _, _, mone_self _ _, Nat.le_of_ble_eq_true rfl, rfl⟩ (.tmp rfl .nil)), fun W_ hI => out_of (l := []) hI [] rfl rfl (mle_refl _) (fun hS_ => ?_)⟩
      dsimp only [packV]
      have he0 : ((cDecode d0).1 : Ty.Den TCommit) = (0, 0, []) := by first | rfl | (first | (rw [cDecode_e1 (by assumption)] <;> rfl) | (rw [cDecode_e2 (by assumption)] <;> rfl) | (rw [cDecode_e3 (by assumption)] <;> rfl) | (rw [cDecode_e4 (by assumption)] <;> rfl) | (rw [cDecode_e5 (by assumption)] <;> rfl) | (rw [cDecode_ok (by assumption) (by assumption) (by assumption) (by assumption) (by assumption)] <;> rfl))
      refine ⟨[Value.int .i64 (0), Value.int .i64 (0), Value.slice none (0) (0)], ?_, ?_⟩
      rotate_left
      · rw [he0]; exact (mkO_Commit 0 0 [] (Seps.nilAt 0 hS_) bdk bdk (Ow.nil _ _))
      all_goals (first | rfl | (first | (rw [cDecode_e1 (by assumption)] <;> rfl) | (rw [cDecode_e2 (by assumption)] <;> rfl) | (rw [cDecode_e3 (by assumption)] <;> rfl) | (rw [cDecode_e4 (by assumption)] <;> rfl) | (rw [cDecode_e5 (by assumption)] <;> rfl) | (rw [cDecode_ok (by assumption) (by assumption) (by assumption) (by assumption) (by assumption)] <;> rfl)))
    · -- FF
      refine VC.skip ?_
      refine outN ?_
      refine VC.rs ?_
      refine VO.mv ?_
      refine VO.mv ?_
      refine VO.mv ?_
      refine VO.y rfl (.add (c := ((sN d0 1048576 + (sN (d0.drop (sN d0 1048576)) 1048576) : Nat) : Int)) rfl rfl (by omega) ⟨bd, bd⟩) ?_
      obtain ⟨A10, hA10, hs10⟩ := h0.drop 1 (sN d0 1048576 + (sN (d0.drop (sN d0 1048576)) 1048576)) rfl bd
      refine VO.y rfl (.slLI (sN d0 1048576 + (sN (d0.drop (sN d0 1048576)) 1048576)) A10 rfl rfl tsl25 rfl hA10 bd) ?_
      refine VO.callN 111 rfl fnOk112 rfl (fun W hW => bRead_ok W (Rd.mono hs10 (hW.at (i := 0) rfl))) (fun v11 m11 hv11 => ?_)
      obtain ⟨s11_0, rfl, f11_0⟩ := hv11
      have hfa12 := bRead_fits (d0.drop (sN d0 1048576 + (sN (d0.drop (sN d0 1048576)) 1048576)))
      obtain ⟨A11_0, c11_0, eq11_0, l11_0, k11_0⟩ := f11_0.slice
      subst eq11_0
      simp only [maxLen] at k11_0
      refine VO.mv ?_
      refine VO.y rfl (.ext rfl rfl) ?_
      refine VO.y rfl (.ext rfl rfl) ?_
      refine VO.y rfl (.ext rfl rfl) ?_
      refine VO.as ?_
      refine VO.as ?_
      refine VO.as ?_
      refine VO.keep [111, 102, 0] [(111, m11), (102, mone g1 (.cells [Value.int .i64 (0), Value.int .i64 (0), Value.slice none (0) (0)].toArray 32 (0, 0))), (0, wm W)] (by kernel_rfl) ?_
      refine VO.k12 0 2 3 4 5 6 7 8 9 10 19 30 ?_
      refine VC.rs ?_
      refine VO.mv ?_
      refine VO.mv ?_
      refine VO.mv ?_
      refine VO.y rfl (.bst (cs := [Value.int .i64 (((sX d0 1048576 : Nat) : Int)), Value.int .i64 (((sX (d0.drop (sN d0 1048576)) 1048576 : Nat) : Int)), Value.slice A11_0 (((bRead (d0.drop (sN d0 1048576 + (sN (d0.drop (sN d0 1048576)) 1048576)))).1).length) (c11_0)]) rfl tst32 tz32 rfl) ?_
      refine VO.alloc 114 rfl tz32 (fun g13 => ?_)
      refine VO.store (k := 3) (c' := [Value.int .i64 (((sX d0 1048576 : Nat) : Int)), Value.int .i64 (((sX (d0.drop (sN d0 1048576)) 1048576 : Nat) : Int)), Value.slice A11_0 (((bRead (d0.drop (sN d0 1048576 + (sN (d0.drop (sN d0 1048576)) 1048576)))).1).length) (c11_0)]) 114 rfl rfl (.inl tk32) rfl rfl rfl rfl rfl ?_
      refine VO.k13 0 2 3 4 5 6 7 8 9 10 11 19 30 ?_
      refine VC.seq ?_
      refine VC.rs ?_
      refine VO.mv ?_
      refine VO.y rfl (.neq rfl rfl) ?_
      refine VO.mv ?_
      refine VO.dec (t := 48) rfl (fun hc15 => ?_) (fun hc15 => ?_)
      · -- FFT
        refine VO.gN ?_
        refine VO.gN ?_
        refine VO.gN ?_
        refine VO.gN ?_
        refine VO.gN ?_
        refine VO.gN ?_
        refine VO.gN ?_
        refine VO.gN ?_
        refine VO.y rfl (.pT rfl rfl) ?_
        refine VO.mv ?_
        refine VO.gN ?_
        refine VO.gN ?_
        refine VO.gN ?_
        refine VO.y rfl (.pT rfl rfl) ?_
        refine VO.k14 0 2 3 4 5 6 7 8 9 10 11 19 30 62 ?_
        refine VC.condT rfl ?_
        refine VC.rs ?_
        refine VO.y rfl (.bst (cs := [Value.int .i64 (0), Value.int .i64 (0), Value.slice none (0) (0)]) rfl tst32 tz32 rfl) ?_
        refine VO.store (k := 3) (c' := [Value.int .i64 (0), Value.int .i64 (0), Value.slice none (0) (0)]) 102 rfl rfl (.inl tk32) rfl rfl rfl rfl rfl ?_
        refine VO.as ?_
        refine VO.keep [114, 111, 102, 0] [(114, mone g13 (.cells [Value.int .i64 (((sX d0 1048576 : Nat) : Int)), Value.int .i64 (((sX (d0.drop (sN d0 1048576)) 1048576 : Nat) : Int)), Value.slice A11_0 (((bRead (d0.drop (sN d0 1048576 + (sN (d0.drop (sN d0 1048576)) 1048576)))).1).length) (c11_0)].toArray 32 (0, 0))), (111, m11), (102, mone g1 (.cells [Value.int .i64 (0), Value.int .i64 (0), Value.slice none (0) (0)].toArray 32 (0, 0))), (0, wm W)] (by kernel_rfl) ?_
        refine VO.k14 0 2 3 4 5 6 7 8 9 10 11 19 30 62 ?_
        refine VC.ret ?_
        refine outR ?_
        refine ⟨_, _, res_run (rs := [.cell 2 32, .tmp 3]) rfl (.agg 102 rfl tk32 rfl ⟨_, _, _, mone_self _ _, Nat.le_of_ble_eq_true rfl, rfl⟩ (.tmp rfl .nil)), fun W_ hI => out_of (l := []) hI [] rfl rfl (mle_refl _) (fun hS_ => ?_)⟩
        dsimp only [packV]
        have he0 : ((cDecode d0).1 : Ty.Den TCommit) = (0, 0, []) := by first | rfl | (first | (rw [cDecode_e1 (by assumption)] <;> rfl) | (rw [cDecode_e2 (by assumption)] <;> rfl) | (rw [cDecode_e3 (by assumption)] <;> rfl) | (rw [cDecode_e4 (by assumption)] <;> rfl) | (rw [cDecode_e5 (by assumption)] <;> rfl) | (rw [cDecode_ok (by assumption) (by assumption) (by assumption) (by assumption) (by assumption)] <;> rfl))
        refine ⟨[Value.int .i64 (0), Value.int .i64 (0), Value.slice none (0) (0)], ?_, ?_⟩
        rotate_left
        · rw [he0]; exact (mkO_Commit 0 0 [] (Seps.nilAt 0 hS_) bdk bdk (Ow.nil _ _))
        all_goals (first | rfl | (first | (rw [cDecode_e1 (by assumption)] <;> rfl) | (rw [cDecode_e2 (by assumption)] <;> rfl) | (rw [cDecode_e3 (by assumption)] <;> rfl) | (rw [cDecode_e4 (by assumption)] <;> rfl) | (rw [cDecode_e5 (by assumption)] <;> rfl) | (rw [cDecode_ok (by assumption) (by assumption) (by assumption) (by assumption) (by assumption)] <;> rfl)))
      · -- FFF
        refine VO.gy rfl ⟨_, rfl, rfl⟩ (.mv rfl) ?_
        refine VO.gy rfl ⟨_, rfl, rfl⟩ (.mv rfl) ?_
        refine VO.gy rfl ⟨_, rfl, rfl⟩ (.add (c := ((sN d0 1048576 + (sN (d0.drop (sN d0 1048576)) 1048576) : Nat) : Int)) rfl rfl (by omega) ⟨bd, bd⟩) ?_
        refine VO.gy rfl ⟨_, rfl, rfl⟩ (.mv rfl) ?_
        refine VO.gy rfl ⟨_, rfl, rfl⟩ (.add rfl rfl rfl ⟨bd, bd⟩) ?_
        refine VO.gy rfl ⟨_, rfl, rfl⟩ (.mv rfl) ?_
        refine VO.gy rfl ⟨_, rfl, rfl⟩ (.lenS rfl tsl25) ?_
        refine VO.gy rfl ⟨_, rfl, rfl⟩ (.neq rfl rfl) ?_
        refine VO.y rfl (.pF rfl rfl) ?_
        refine VO.mv ?_
        refine VO.dec (t := 58) rfl (fun hc16 => ?_) (fun hc16 => ?_)
        · -- FFFT
          refine VO.gN ?_
          refine VO.gN ?_
          refine VO.gN ?_
          refine VO.y rfl (.pT rfl rfl) ?_
          refine VO.k14 0 2 3 4 5 6 7 8 9 10 11 19 30 62 ?_
          refine VC.condT rfl ?_
          refine VC.rs ?_
          refine VO.y rfl (.bst (cs := [Value.int .i64 (0), Value.int .i64 (0), Value.slice none (0) (0)]) rfl tst32 tz32 rfl) ?_
          refine VO.store (k := 3) (c' := [Value.int .i64 (0), Value.int .i64 (0), Value.slice none (0) (0)]) 102 rfl rfl (.inl tk32) rfl rfl rfl rfl rfl ?_
          refine VO.as ?_
          refine VO.keep [114, 111, 102, 0] [(114, mone g13 (.cells [Value.int .i64 (((sX d0 1048576 : Nat) : Int)), Value.int .i64 (((sX (d0.drop (sN d0 1048576)) 1048576 : Nat) : Int)), Value.slice A11_0 (((bRead (d0.drop (sN d0 1048576 + (sN (d0.drop (sN d0 1048576)) 1048576)))).1).length) (c11_0)].toArray 32 (0, 0))), (111, m11), (102, mone g1 (.cells [Value.int .i64 (0), Value.int .i64 (0), Value.slice none (0) (0)].toArray 32 (0, 0))), (0, wm W)] (by kernel_rfl) ?_
          refine VO.k14 0 2 3 4 5 6 7 8 9 10 11 19 30 62 ?_
          refine VC.ret ?_
          refine outR ?_
          refine ⟨_, _, res_run (rs := [.cell 2 32, .tmp 3]) rfl (.agg 102 rfl tk32 rfl ⟨_, _, _, mone_self _ _, Nat.le_of_ble_eq_true rfl, rfl⟩ (.tmp rfl .nil)), fun W_ hI => out_of (l := []) hI [] rfl rfl (mle_refl _) (fun hS_ => ?_)⟩
          dsimp only [packV]
          have he0 : ((cDecode d0).1 : Ty.Den TCommit) = (0, 0, []) := by first | rfl | (first | (rw [cDecode_e1 (by assumption)] <;> rfl) | (rw [cDecode_e2 (by assumption)] <;> rfl) | (rw [cDecode_e3 (by assumption)] <;> rfl) | (rw [cDecode_e4 (by assumption)] <;> rfl) | (rw [cDecode_e5 (by assumption)] <;> rfl) | (rw [cDecode_ok (by assumption) (by assumption) (by assumption) (by assumption) (by assumption)] <;> rfl))
          refine ⟨[Value.int .i64 (0), Value.int .i64 (0), Value.slice none (0) (0)], ?_, ?_⟩
          rotate_left
          · rw [he0]; exact (mkO_Commit 0 0 [] (Seps.nilAt 0 hS_) bdk bdk (Ow.nil _ _))
          all_goals (first | rfl | (first | (rw [cDecode_e1 (by assumption)] <;> rfl) | (rw [cDecode_e2 (by assumption)] <;> rfl) | (rw [cDecode_e3 (by assumption)] <;> rfl) | (rw [cDecode_e4 (by assumption)] <;> rfl) | (rw [cDecode_e5 (by assumption)] <;> rfl) | (rw [cDecode_ok (by assumption) (by assumption) (by assumption) (by assumption) (by assumption)] <;> rfl)))
        · -- FFFF
          refine VO.gy rfl ⟨_, rfl, rfl⟩ (.ldA 114 rfl tk32 rfl (cellsAt_one rfl rfl)) ?_
          refine VO.gcallN 117 rfl ⟨_, rfl, rfl⟩ fnOk86 rfl (fun W hW => cCheck_ok_ W (mk_Commit (m := wm W) ((sX d0 1048576 : Nat) : Int) ((sX (d0.drop (sN d0 1048576)) 1048576 : Nat) : Int) ((bRead (d0.drop (sN d0 1048576 + (sN (d0.drop (sN d0 1048576)) 1048576)))).1) bdk bdk (OwnL.rd (Ow.ownl f11_0 rfl mnil) (hW.at (i := 111) rfl) (mle_nil _)))) (fun v17 m17 hv17 => ?_)
          try dsimp only at hv17
          subst hv17
          have hfa18 := cCheck_range (((sX d0 1048576 : Nat) : Int), ((sX (d0.drop (sN d0 1048576)) 1048576 : Nat) : Int), (bRead (d0.drop (sN d0 1048576 + (sN (d0.drop (sN d0 1048576)) 1048576)))).1)
          refine VO.gy rfl ⟨_, rfl, rfl⟩ (.neq rfl rfl) ?_
          refine VO.y rfl (.pF rfl rfl) ?_
          refine VO.k14 0 2 3 4 5 6 7 8 9 10 11 19 30 62 ?_
          refine VC.cond rfl (fun hc19 => ?_) (fun hc19 => ?_)
          · -- FFFFT
            refine VC.rs ?_
            refine VO.y rfl (.bst (cs := [Value.int .i64 (0), Value.int .i64 (0), Value.slice none (0) (0)]) rfl tst32 tz32 rfl) ?_
            refine VO.store (k := 3) (c' := [Value.int .i64 (0), Value.int .i64 (0), Value.slice none (0) (0)]) 102 rfl rfl (.inl tk32) rfl rfl rfl rfl rfl ?_
            refine VO.as ?_
            refine VO.keep [114, 111, 102, 0] [(114, mone g13 (.cells [Value.int .i64 (((sX d0 1048576 : Nat) : Int)), Value.int .i64 (((sX (d0.drop (sN d0 1048576)) 1048576 : Nat) : Int)), Value.slice A11_0 (((bRead (d0.drop (sN d0 1048576 + (sN (d0.drop (sN d0 1048576)) 1048576)))).1).length) (c11_0)].toArray 32 (0, 0))), (111, m11), (102, mone g1 (.cells [Value.int .i64 (0), Value.int .i64 (0), Value.slice none (0) (0)].toArray 32 (0, 0))), (0, wm W)] (by kernel_rfl) ?_
            refine VO.k14 0 2 3 4 5 6 7 8 9 10 11 19 30 62 ?_
            refine VC.ret ?_
            refine outR ?_
            refine ⟨_, _, res_run (rs := [.cell 2 32, .tmp 3]) rfl (.agg 102 rfl tk32 rfl ⟨_, _, _, mone_self _ _, Nat.le_of_ble_eq_true rfl, rfl⟩ (.tmp rfl .nil)), fun W_ hI => out_of (l := []) hI [] rfl rfl (mle_refl _) (fun hS_ => ?_)⟩
            dsimp only [packV]
            have he0 : ((cDecode d0).1 : Ty.Den TCommit) = (0, 0, []) := by first | rfl | (first | (rw [cDecode_e1 (by assumption)] <;> rfl) | (rw [cDecode_e2 (by assumption)] <;> rfl) | (rw [cDecode_e3 (by assumption)] <;> rfl) | (rw [cDecode_e4 (by assumption)] <;> rfl) | (rw [cDecode_e5 (by assumption)] <;> rfl) | (rw [cDecode_ok (by assumption) (by assumption) (by assumption) (by assumption) (by assumption)] <;> rfl))
            refine ⟨[Value.int .i64 (0), Value.int .i64 (0), Value.slice none (0) (0)], ?_, ?_⟩
            rotate_left
            · rw [he0]; exact (mkO_Commit 0 0 [] (Seps.nilAt 0 hS_) bdk bdk (Ow.nil _ _))
            all_goals (first | rfl | (first | (rw [cDecode_e1 (by assumption)] <;> rfl) | (rw [cDecode_e2 (by assumption)] <;> rfl) | (rw [cDecode_e3 (by assumption)] <;> rfl) | (rw [cDecode_e4 (by assumption)] <;> rfl) | (rw [cDecode_e5 (by assumption)] <;> rfl) | (rw [cDecode_ok (by assumption) (by assumption) (by assumption) (by assumption) (by assumption)] <;> rfl)))
          · -- FFFFF
            refine VC.skip ?_
            refine outN ?_
            refine VC.rs ?_
            refine VO.y rfl (.ldA 114 rfl tk32 rfl (cellsAt_one rfl rfl)) ?_
            refine VO.store (k := 3) (c' := [Value.int .i64 (((sX d0 1048576 : Nat) : Int)), Value.int .i64 (((sX (d0.drop (sN d0 1048576)) 1048576 : Nat) : Int)), Value.slice A11_0 (((bRead (d0.drop (sN d0 1048576 + (sN (d0.drop (sN d0 1048576)) 1048576)))).1).length) (c11_0)]) 102 rfl rfl (.inl tk32) rfl rfl rfl rfl rfl ?_
            refine VO.as ?_
            refine VO.keep [114, 111, 102, 0] [(114, mone g13 (.cells [Value.int .i64 (((sX d0 1048576 : Nat) : Int)), Value.int .i64 (((sX (d0.drop (sN d0 1048576)) 1048576 : Nat) : Int)), Value.slice A11_0 (((bRead (d0.drop (sN d0 1048576 + (sN (d0.drop (sN d0 1048576)) 1048576)))).1).length) (c11_0)].toArray 32 (0, 0))), (111, m11), (102, mone g1 (.cells [Value.int .i64 (((sX d0 1048576 : Nat) : Int)), Value.int .i64 (((sX (d0.drop (sN d0 1048576)) 1048576 : Nat) : Int)), Value.slice A11_0 (((bRead (d0.drop (sN d0 1048576 + (sN (d0.drop (sN d0 1048576)) 1048576)))).1).length) (c11_0)].toArray 32 (0, 0))), (0, wm W)] (by kernel_rfl) ?_
            refine VO.k14 0 2 3 4 5 6 7 8 9 10 11 19 30 62 ?_
            refine VC.ret ?_
            refine ⟨_, _, res_run (rs := [.cell 2 32, .tmp 3]) rfl (.agg 102 rfl tk32 rfl ⟨_, _, _, mone_self _ _, Nat.le_of_ble_eq_true rfl, rfl⟩ (.tmp rfl .nil)), fun W_ hI => out_of (l := [m11]) hI [111] rfl rfl (mle_refl _) (fun hS_ => ?_)⟩
            dsimp only [packV]
            have he0 : ((cDecode d0).1 : Ty.Den TCommit) = (((sX d0 1048576 : Nat) : Int), ((sX (d0.drop (sN d0 1048576)) 1048576 : Nat) : Int), (bRead (d0.drop (sN d0 1048576 + (sN (d0.drop (sN d0 1048576)) 1048576)))).1) := by first | rfl | (first | (rw [cDecode_e1 (by assumption)] <;> rfl) | (rw [cDecode_e2 (by assumption)] <;> rfl) | (rw [cDecode_e3 (by assumption)] <;> rfl) | (rw [cDecode_e4 (by assumption)] <;> rfl) | (rw [cDecode_e5 (by assumption)] <;> rfl) | (rw [cDecode_ok (by assumption) (by assumption) (by assumption) (by assumption) (by assumption)] <;> rfl))
            refine ⟨[Value.int .i64 (((sX d0 1048576 : Nat) : Int)), Value.int .i64 (((sX (d0.drop (sN d0 1048576)) 1048576 : Nat) : Int)), Value.slice A11_0 (((bRead (d0.drop (sN d0 1048576 + (sN (d0.drop (sN d0 1048576)) 1048576)))).1).length) (c11_0)], ?_, ?_⟩
            rotate_left
            · rw [he0]; exact (mkO_Commit ((sX d0 1048576 : Nat) : Int) ((sX (d0.drop (sN d0 1048576)) 1048576 : Nat) : Int) ((bRead (d0.drop (sN d0 1048576 + (sN (d0.drop (sN d0 1048576)) 1048576)))).1) hS_ bdk bdk (OwnL.ow (Ow.ownl f11_0 rfl mnil) rfl))
            all_goals (first | rfl | (first | (rw [cDecode_e1 (by assumption)] <;> rfl) | (rw [cDecode_e2 (by assumption)] <;> rfl) | (rw [cDecode_e3 (by assumption)] <;> rfl) | (rw [cDecode_e4 (by assumption)] <;> rfl) | (rw [cDecode_e5 (by assumption)] <;> rfl) | (rw [cDecode_ok (by assumption) (by assumption) (by assumption) (by assumption) (by assumption)] <;> rfl)))
end
section
set_option linter.unusedVariables false
abbrev DHC := Int × Int × Hd
instance decHC : DecidableEq DHC := (@instDecidableEqProd _ _ inferInstance (@instDecidableEqProd _ _ inferInstance inferInstance))
end
section
set_option linter.unusedVariables false
def fEnc (r : Bytes) : Bytes := venc r.length ++ r
def fAppend (b r : Bytes) : Bytes × Int := if 131072 < r.length then ([], 3) else (b ++ fEnc r, 0)
def fRead (b : Bytes) : Bytes × Int × Int := if sE b 131072 = 0 ∧ (sX b 131072 : Int) ≤ (b.length : Int) - sN b 131072 then ((b.drop (sN b 131072)).take (sX b 131072), (sN b 131072 : Int) + sX b 131072, 0) else ([], 0, 5)
theorem fAppend_long {b r : Bytes} (h : (131072 : Int) < r.length) : fAppend b r = ([], 3) := if_pos (by omega)
theorem fAppend_good {b r : Bytes} (h : ¬ (131072 : Int) < r.length) : fAppend b r = (b ++ fEnc r, 0) := if_neg (by omega)
theorem fEnc_len {r : Bytes} (h : r.length ≤ 131072) : (fEnc r).length ≤ r.length + 10 := by
  have := venc_len (x := r.length) (by omega)
  simp only [fEnc, List.length_append]; omega
theorem fEnc_pos (r : Bytes) : 1 ≤ (fEnc r).length := by
  have := venc_pos r.length
  simp only [fEnc, List.length_append]; omega
theorem sN_pos {b : Bytes} {m : Int} (h : sE b m = 0) : 1 ≤ sN b m := by
  unfold sE at h; unfold sN
  cases hv : vsmall b m with
  | none => rw [hv] at h; cases h
  | some p =>
    obtain ⟨x, n⟩ := p
    unfold vsmall at hv
    cases hr : vread b with
    | none => rw [hr] at hv; cases hv
    | some q =>
      obtain ⟨y, k⟩ := q
      rw [hr] at hv
      dsimp only at hv
      split at hv
      · cases hv; exact (vread_bounds hr).2.1
      · cases hv
theorem fRead_bounds (b : Bytes) : 0 ≤ (fRead b).2.1 ∧ (fRead b).2.1 ≤ b.length ∧ (fRead b).1.length ≤ 131072 ∧ ((fRead b).2.2 = 0 ∨ (fRead b).2.2 = 5) ∧ ((fRead b).2.2 = 0 → 1 ≤ (fRead b).2.1) ∧ (fRead b).1.length ≤ b.length := by
  have hb := s_bounds b 131072 (by omega)
  have := hb.2.1 (by omega)
  unfold fRead
  split
  · rename_i h
    have := sN_pos h.1
    refine ⟨by dsimp only; omega, by dsimp only; omega, by simp only [List.length_take]; omega, .inl rfl, fun _ => by dsimp only; omega, by simp only [List.length_take, List.length_drop]; omega⟩
  · exact ⟨Int.le_refl _, by simp, by simp, .inr rfl, fun h => (by cases h), by simp⟩
theorem fRead_there {r : Bytes} (h : r.length ≤ 131072) (s : Bytes) : fRead (fEnc r ++ s) = (r, ((fEnc r).length : Int), 0) := by
  obtain ⟨a1, a2, a3⟩ := s_there (x := r.length) (m := 131072) (by omega) (by omega) (r ++ s)
  unfold fEnc
  rw [List.append_assoc]
  unfold fRead
  rw [a1, a2, a3, if_pos ⟨rfl, by simp only [List.length_append]; omega⟩, List.drop_left, List.take_left]
  simp only [List.length_append, Int.natCast_add]
theorem fRead_back {b : Bytes} (h : (fRead b).2.2 = 0) : b = fEnc (fRead b).1 ++ b.drop (fRead b).2.1.toNat ∧ (fRead b).2.1 = ((fEnc (fRead b).1).length : Int) ∧ (fRead b).1.length ≤ 131072 := by
  have hb := s_bounds b 131072 (by omega)
  have h1 := hb.2.1 (by omega)
  unfold fRead at h ⊢
  split at h
  · rename_i hh
    rw [if_pos hh]
    have e := s_back hh.1
    dsimp only
    have hl : ((b.drop (sN b 131072)).take (sX b 131072)).length = sX b 131072 := by
      simp only [List.length_take, List.length_drop]; omega
    have hv : (venc (sX b 131072)).length = sN b 131072 := by
      have := congrArg List.length e
      simp only [List.length_append, List.length_drop] at this
      omega
    refine ⟨?_, ?_, by rw [hl]; omega⟩
    · unfold fEnc
      rw [hl, List.append_assoc, show ((sN b 131072 : Int) + sX b 131072).toNat = sN b 131072 + sX b 131072 by omega, ← List.drop_drop, List.take_append_drop, ← e]
    · unfold fEnc
      rw [List.length_append, hl, hv]; omega
  · cases h
def fWhole (b : Bytes) : Int × Int × Bool := if sE b 131072 = 0 ∧ (sX b 131072 : Int) ≤ (b.length : Int) - sN b 131072 then ((sN b 131072 : Int), (sN b 131072 : Int) + sX b 131072, true) else (0, 0, false)
theorem whole_no1 {b : Bytes} (h : ¬ sE b 131072 = 0) : fWhole b = (0, 0, false) := if_neg fun q => h q.1
theorem whole_no2 {b : Bytes} (h : (b.length : Int) - sN b 131072 < sX b 131072) : fWhole b = (0, 0, false) := if_neg fun q => by have := q.2; omega
theorem whole_yes {b : Bytes} (h : ¬ ¬ sE b 131072 = 0) (h2 : ¬ (b.length : Int) - sN b 131072 < sX b 131072) : fWhole b = ((sN b 131072 : Int), (sN b 131072 : Int) + sX b 131072, true) := if_pos ⟨Decidable.not_not.1 h, by omega⟩
theorem fWhole_bounds (b : Bytes) : 0 ≤ (fWhole b).1 ∧ (fWhole b).1 ≤ (fWhole b).2.1 ∧ (fWhole b).2.1 ≤ b.length ∧ (fWhole b).2.1 - (fWhole b).1 ≤ 131072 := by
  have hb := s_bounds b 131072 (by omega)
  have := hb.2.1 (by omega)
  unfold fWhole
  split
  · rename_i h; exact ⟨by dsimp only; omega, by dsimp only; omega, by dsimp only; omega, by dsimp only; omega⟩
  · exact ⟨Int.le_refl _, Int.le_refl _, by simp, by decide⟩
theorem fRead_bad {b : Bytes} (h : (fWhole b).2.2 = false) : fRead b = ([], 0, 5) := by
  unfold fWhole at h; unfold fRead
  split at h
  · cases h
  · rename_i h0; exact if_neg h0
theorem fRead_good {b : Bytes} (h : (fWhole b).2.2 = true) : fRead b = ((b.take (fWhole b).2.1.toNat).drop (fWhole b).1.toNat, (fWhole b).2.1, 0) := by
  have hb := s_bounds b 131072 (by omega)
  unfold fWhole at h ⊢; unfold fRead
  split at h
  · rename_i h0
    rw [if_pos h0, if_pos h0]
    dsimp only
    rw [List.drop_take, Int.toNat_natCast, show ((sN b 131072 : Int) + sX b 131072).toNat - sN b 131072 = sX b 131072 by omega]
  · cases h
theorem clone_nil' {e : Ty} {m : Mem} {A : Option Addr} {c : Nat} {l : List e.Den} (h : Rd (.sl e) m [.slice A l.length c] l) (hA : A = none) : l = [] := by
  subst hA
  obtain ⟨A', c', h1, _, _, h4⟩ := h
  rcases h4 with h4 | ⟨g, off, all, k1, _⟩
  · exact List.eq_nil_of_length_eq_zero h4
  · simp only [List.cons.injEq, Value.slice.injEq, and_true] at h1
    rw [← h1.1] at k1; cases k1
theorem fAppend_len (b r : Bytes) : (fAppend b r).1.length ≤ b.length + 131082 := by
  unfold fAppend
  split
  · simp
  · have := fEnc_len (r := r) (by omega)
    simp only [List.length_append]; omega
theorem fAppend_range (b r : Bytes) : 0 ≤ (fAppend b r).2 ∧ (fAppend b r).2 ≤ 3 := by unfold fAppend; split <;> exact ⟨by dsimp only; omega, by dsimp only; omega⟩
theorem cEnc_len {c : DCommit} (h : cCheck c = 0) : (cEnc c).length ≤ 700 := by
  have := cEncode_len c
  unfold cEncode at this
  rwa [if_pos h] at this
def cFrame (c : DCommit) : Bytes := fEnc (cEnc c)
def cFrames (l : List DCommit) : Bytes := (l.map cFrame).flatten
theorem cFrame_len {c : DCommit} (h : cCheck c = 0) : (cFrame c).length ≤ 710 ∧ 1 ≤ (cFrame c).length := by
  have h1 := cEnc_len h
  have h2 := fEnc_len (r := cEnc c) (by omega)
  exact ⟨by unfold cFrame; omega, fEnc_pos _⟩
theorem cFrames_cons (c : DCommit) (l : List DCommit) : cFrames (c :: l) = cFrame c ++ cFrames l := rfl
theorem cFrames_len : ∀ {l : List DCommit}, (∀ c ∈ l, cCheck c = 0) → (cFrames l).length ≤ 710 * l.length
  | [], _ => by simp [cFrames]
  | c :: l, h => by
    have h1 := cFrame_len (h c (.head _))
    have h2 := cFrames_len (l := l) fun x hx => h x (.tail _ hx)
    rw [cFrames_cons]
    simp only [List.length_append, List.length_cons]; omega
/-- a frame of a commit is read -/
theorem frame_there {c : DCommit} (h : cCheck c = 0) (s : Bytes) : fRead (cFrame c ++ s) = (cEnc c, ((cFrame c).length : Int), 0) ∧ cDecode (cEnc c) = (c, 0) :=
  ⟨fRead_there (by have := cEnc_len h; omega) s, cDecode_there h⟩
theorem frame_back {b : Bytes} (h : (fRead b).2.2 = 0) (h2 : (cDecode (fRead b).1).2 = 0) : cCheck (cDecode (fRead b).1).1 = 0 ∧ b = cFrame (cDecode (fRead b).1).1 ++ b.drop (fRead b).2.1.toNat ∧ (fRead b).2.1 = ((cFrame (cDecode (fRead b).1).1).length : Int) := by
  obtain ⟨h3, h4⟩ := cDecode_back h2
  obtain ⟨h5, h6, _⟩ := fRead_back h
  refine ⟨h3, ?_, ?_⟩
  · conv => lhs; rw [h5]
    unfold cFrame; rw [← h4]
  · unfold cFrame; rw [← h4]; exact h6
end
section
set_option linter.unusedVariables false
set_option linter.unusedSimpArgs false
set_option maxRecDepth 4000
theorem fnOk109 : fnOk Try.prog 109 = true := by kernel_rfl
theorem fnOk110 : fnOk Try.prog 110 = true := by kernel_rfl
theorem cloneB_ok (W : World) {v0 : Value} {d0 : List UInt8} (h0 : Rd (.sl .byte) (wm W) [v0] d0) (e0 : d0.length ≤ 140737488355000) : CallR Try.prog 110 [v0] W (mnil) (fun v m' => ∃ (s0 : Value), v = s0 ∧ Ow (.sl .byte) m' [s0] (d0)) := by
  obtain ⟨A0, c0, rfl, l0, k0⟩ := h0.slice
  simp only [maxLen] at k0
  refine CallR.ofA (n := 8) Try.func110 rfl rfl rfl ?_
  refine VC.rs ?_
  refine VO.as ?_
  refine VO.k2 0 2 ?_
  refine VC.seq ?_
  refine VC.rs ?_
  refine VO.mv ?_
  refine VO.y rfl (.snil rfl rfl Try.underlying25) ?_
  refine VO.k3 0 2 4 ?_
  refine VC.cond rfl (fun hc1 => ?_) (fun hc1 => ?_)
  · -- T
    refine VC.rs ?_
    refine VO.as ?_
    refine VO.keep [0] [(0, wm W)] (by kernel_rfl) ?_
    refine VO.k3 0 2 4 ?_
    refine VC.ret ?_
    refine outR ?_
    refine ⟨_, _, res_run (rs := [.tmp 2]) rfl (.tmp rfl .nil), fun W_ hI => out_of (l := []) hI [] rfl rfl (mle_refl _) (fun hS_ => ?_)⟩
    dsimp only [packV]
    have he0 : (d0 : Ty.Den (.sl .byte)) = [] := by first | rfl | (exact clone_nil' h0 ‹_ = none›)
    refine ⟨Value.slice none (0) (0), ?_, ?_⟩
    rotate_left
    · rw [he0]; exact (Ow.nil _ _)
    all_goals (first | rfl | (simp [*]; done))
  · -- F
    refine VC.skip ?_
    refine outN ?_
    refine VC.rs ?_
    refine VO.bsl (cs := []) 103 rfl rfl tsl25 tz5 rfl rfl (fun g2 => ?_)
    refine VO.mv ?_
    have ho5 : OwnL .byte (mone g2 (.cells [].toArray 5 (0, 0))) mnil (Value.slice (some ⟨g2, 0, none⟩) (0) (0)) [] := OwnL.lit 0 All2c.nil rfl rfl
    obtain ⟨mo4, cs4, hM4, hA4, hC4⟩ := ho5
    obtain ⟨all4, hS4, hR4⟩ := Rd.srcI (P := Try.prog) (h0) Try.underlying25
    refine VO.app 103 rfl rfl rfl tsl25 tz5 rfl rfl hM4 hA4 (hS4 _ 0 rfl) hR4.nice bdm bd (by decide) (fun v4 m4 hN4 => ?_)
    have ho4 : OwnL .byte m4 mnil v4 (d0) := OwnL.more hC4 hN4 (All2c.mono hR4 fun _ _ h => Rd.flat rfl h _)
    obtain ⟨A4, c4, rfl, l4, k4⟩ := ho4.slice
    simp only [maxLen] at k4
    refine VO.as ?_
    refine VO.keep [103, 0] [(103, m4), (0, wm W)] (by kernel_rfl) ?_
    refine VO.k3 0 2 4 ?_
    refine VC.ret ?_
    refine ⟨_, _, res_run (rs := [.tmp 2]) rfl (.tmp rfl .nil), fun W_ hI => out_of (l := [m4]) hI [103] rfl rfl (mle_refl _) (fun hS_ => ?_)⟩
    dsimp only [packV]
    have he0 : (d0 : Ty.Den (.sl .byte)) = d0 := by first | rfl | (exact clone_nil' h0 ‹_ = none›)
    refine ⟨Value.slice A4 ((d0).length) (c4), ?_, ?_⟩
    rotate_left
    · rw [he0]; exact (Ow.up (OwnL.ow ho4 rfl) (hS_.1 _ (.head _)))
    all_goals (first | rfl | (simp [*]; done))
theorem fAppend_ok (W : World) {v0 : Value} {d0 : List UInt8} (h0 : Rd (.sl .byte) (wm W) [v0] d0) {v1 : Value} {d1 : List UInt8} (h1 : Rd (.sl .byte) (wm W) [v1] d1) (e0 : d0.length ≤ 140737488000000) : CallR Try.prog 55 [v0, v1] W (mnil) (fun v m' => ∃ (s0 : Value), v = .tuple #[s0, .int .i64 ((fAppend d0 d1).2)] ∧ Ow (.sl .byte) m' [s0] ((fAppend d0 d1).1)) := by
  obtain ⟨A0, c0, rfl, l0, k0⟩ := h0.slice
  simp only [maxLen] at k0
  obtain ⟨A1, c1, rfl, l1, k1⟩ := h1.slice
  simp only [maxLen] at k1
  refine CallR.ofA (n := 16) Try.func55 rfl rfl rfl ?_
  refine VC.rs ?_
  refine VO.as ?_
  refine VO.as ?_
  refine VO.k4 0 1 4 5 ?_
  refine VC.seq ?_
  refine VC.rs ?_
  refine VO.mv ?_
  refine VO.y rfl (.lenS rfl tsl25) ?_
  refine VO.y rfl (.gtr rfl rfl) ?_
  refine VO.k5 0 1 4 5 8 ?_
  refine VC.cond rfl (fun hc1 => ?_) (fun hc1 => ?_)
  · -- T
    refine VC.rs ?_
    refine VO.as ?_
    refine VO.as ?_
    refine VO.keep [0] [(0, wm W)] (by kernel_rfl) ?_
    refine VO.k5 0 1 4 5 8 ?_
    refine VC.ret ?_
    refine outR ?_
    refine ⟨_, _, res_run (rs := [.tmp 4, .tmp 5]) rfl (.tmp rfl (.tmp rfl .nil)), fun W_ hI => out_of (l := []) hI [] rfl rfl (mle_refl _) (fun hS_ => ?_)⟩
    dsimp only [packV]
    have he0 : ((fAppend d0 d1).1 : Ty.Den (.sl .byte)) = [] := by first | rfl | (first | (rw [fAppend_long (by omega)] <;> rfl) | (rw [fAppend_good (by omega)] <;> first | rfl | (simp only [fEnc, List.append_assoc, Int.toNat_natCast, List.nil_append]; done)))
    refine ⟨Value.slice none (0) (0), ?_, ?_⟩
    rotate_left
    · rw [he0]; exact (Ow.nil _ _)
    all_goals (first | rfl | (first | (rw [fAppend_long (by omega)] <;> rfl) | (rw [fAppend_good (by omega)] <;> first | rfl | (simp only [fEnc, List.append_assoc, Int.toNat_natCast, List.nil_append]; done))))
  · -- F
    refine VC.skip ?_
    refine outN ?_
    refine VC.rs ?_
    refine VO.mv ?_
    refine VO.mv ?_
    refine VO.y rfl (.lenS rfl tsl25) ?_
    refine VO.y rfl (.cvI rfl ⟨_, Try.underlying3⟩ Try.underlying82 (IntWalk.u64_in _ bd)) ?_
    refine VO.callN 102 rfl fnOk54 rfl (fun W hW => vAppend_ok W (Rd.mono h0 (hW.at (i := 0) rfl)) d1.length bd bd) (fun v2 m2 hv2 => ?_)
    obtain ⟨s2_0, rfl, f2_0⟩ := hv2
    have hfa3 := venc_len (x := d1.length) (by first | omega | exact or64 (by assumption) _)
    obtain ⟨A2_0, c2_0, eq2_0, l2_0, k2_0⟩ := f2_0.slice
    subst eq2_0
    simp only [maxLen] at k2_0
    refine VO.mv ?_
    obtain ⟨mo4, cs4, hM4, hA4, hC4⟩ := (Ow.ownl f2_0 rfl mnil)
    obtain ⟨all4, hS4, hR4⟩ := Rd.srcI (P := Try.prog) (h1) Try.underlying25
    refine VO.app 102 rfl rfl rfl tsl25 tz5 rfl rfl hM4 hA4 (hS4 _ 0 rfl) hR4.nice bdm bd (by decide) (fun v4 m4 hN4 => ?_)
    have ho4 : OwnL .byte m4 mnil v4 ((d0 ++ venc d1.length) ++ d1) := OwnL.more hC4 hN4 (All2c.mono hR4 fun _ _ h => Rd.flat rfl h _)
    obtain ⟨A4, c4, rfl, l4, k4⟩ := ho4.slice
    simp only [maxLen] at k4
    refine VO.as ?_
    refine VO.as ?_
    refine VO.keep [102, 0] [(102, m4), (0, wm W)] (by kernel_rfl) ?_
    refine VO.k5 0 1 4 5 8 ?_
    refine VC.ret ?_
    refine ⟨_, _, res_run (rs := [.tmp 4, .tmp 5]) rfl (.tmp rfl (.tmp rfl .nil)), fun W_ hI => out_of (l := [m4]) hI [102] rfl rfl (mle_refl _) (fun hS_ => ?_)⟩
    dsimp only [packV]
    have he0 : ((fAppend d0 d1).1 : Ty.Den (.sl .byte)) = (d0 ++ venc d1.length) ++ d1 := by first | rfl | (first | (rw [fAppend_long (by omega)] <;> rfl) | (rw [fAppend_good (by omega)] <;> first | rfl | (simp only [fEnc, List.append_assoc, Int.toNat_natCast, List.nil_append]; done)))
    refine ⟨Value.slice A4 (((d0 ++ venc d1.length) ++ d1).length) (c4), ?_, ?_⟩
    rotate_left
    · rw [he0]; exact (Ow.up (OwnL.ow ho4 rfl) (hS_.1 _ (.head _)))
    all_goals (first | rfl | (first | (rw [fAppend_long (by omega)] <;> rfl) | (rw [fAppend_good (by omega)] <;> first | rfl | (simp only [fEnc, List.append_assoc, Int.toNat_natCast, List.nil_append]; done))))
theorem fWhole_ok (W : World) {v0 : Value} {d0 : List UInt8} (h0 : Rd (.sl .byte) (wm W) [v0] d0) : CallR Try.prog 109 [v0] W (mnil) (fun v m' => v = .tuple #[.int .i64 ((fWhole d0).1), .int .i64 ((fWhole d0).2.1), .bool ((fWhole d0).2.2)]) := by
  obtain ⟨A0, c0, rfl, l0, k0⟩ := h0.slice
  simp only [maxLen] at k0
  refine CallR.ofA (n := 28) Try.func109 rfl rfl rfl ?_
  refine VC.rs ?_
  refine VO.as ?_
  refine VO.as ?_
  refine VO.as ?_
  refine VO.k4 0 2 3 4 ?_
  refine VC.rs ?_
  refine VO.mv ?_
  refine VO.callN 101 rfl fnOk111 rfl (fun W hW => vSmall_ok W (Rd.mono h0 (hW.at (i := 0) rfl)) 131072 bdk) (fun v1 m1 hv1 => ?_)
  subst hv1
  have hfa2 := s_bounds d0 131072 (by omega)
  refine VO.mv ?_
  refine VO.y rfl (.ext rfl rfl) ?_
  refine VO.y rfl (.ext rfl rfl) ?_
  refine VO.y rfl (.ext rfl rfl) ?_
  refine VO.as ?_
  refine VO.as ?_
  refine VO.as ?_
  refine VO.k7 0 2 3 4 5 6 7 ?_
  refine VC.seq ?_
  refine VC.rs ?_
  refine VO.mv ?_
  refine VO.y rfl (.neq rfl rfl) ?_
  refine VO.mv ?_
  refine VO.dec (t := 16) rfl (fun hc3 => ?_) (fun hc3 => ?_)
  · -- T
    refine VO.gN ?_
    refine VO.gN ?_
    refine VO.gN ?_
    refine VO.gN ?_
    refine VO.gN ?_
    refine VO.gN ?_
    refine VO.y rfl (.pT rfl rfl) ?_
    refine VO.keep [0] [(0, wm W)] (by kernel_rfl) ?_
    refine VO.k8 0 2 3 4 5 6 7 23 ?_
    refine VC.condT rfl ?_
    refine VC.rs ?_
    refine VO.as ?_
    refine VO.as ?_
    refine VO.as ?_
    refine VO.k8 0 2 3 4 5 6 7 23 ?_
    refine VC.ret ?_
    refine outR ?_
    refine ⟨_, _, res_run (rs := [.tmp 2, .tmp 3, .tmp 4]) rfl (.tmp rfl (.tmp rfl (.tmp rfl .nil))), fun W_ hI => out_of (l := []) hI [] rfl rfl (mle_refl _) (fun hS_ => ?_)⟩
    dsimp only [packV]
    all_goals (first | rfl | (first | (rw [whole_no1 (by assumption)] <;> rfl) | (rw [whole_no2 (by omega)] <;> rfl) | (rw [whole_yes (by assumption) (by omega)] <;> rfl)))
  · -- F
    refine VO.gy rfl ⟨_, rfl, rfl⟩ (.mv rfl) ?_
    refine VO.gy rfl ⟨_, rfl, rfl⟩ (.lenS rfl tsl25) ?_
    refine VO.gy rfl ⟨_, rfl, rfl⟩ (.mv rfl) ?_
    refine VO.gy rfl ⟨_, rfl, rfl⟩ (.sub rfl rfl rfl ⟨bd, bd⟩) ?_
    refine VO.gy rfl ⟨_, rfl, rfl⟩ (.mv rfl) ?_
    refine VO.gy rfl ⟨_, rfl, rfl⟩ (.lss rfl rfl) ?_
    refine VO.y rfl (.pF rfl rfl) ?_
    refine VO.keep [0] [(0, wm W)] (by kernel_rfl) ?_
    refine VO.k8 0 2 3 4 5 6 7 23 ?_
    refine VC.cond rfl (fun hc4 => ?_) (fun hc4 => ?_)
    · -- FT
      refine VC.rs ?_
      refine VO.as ?_
      refine VO.as ?_
      refine VO.as ?_
      refine VO.k8 0 2 3 4 5 6 7 23 ?_
      refine VC.ret ?_
      refine outR ?_
      refine ⟨_, _, res_run (rs := [.tmp 2, .tmp 3, .tmp 4]) rfl (.tmp rfl (.tmp rfl (.tmp rfl .nil))), fun W_ hI => out_of (l := []) hI [] rfl rfl (mle_refl _) (fun hS_ => ?_)⟩
      dsimp only [packV]
      all_goals (first | rfl | (first | (rw [whole_no1 (by assumption)] <;> rfl) | (rw [whole_no2 (by omega)] <;> rfl) | (rw [whole_yes (by assumption) (by omega)] <;> rfl)))
    · -- FF
      refine VC.skip ?_
      refine outN ?_
      refine VC.rs ?_
      refine VO.mv ?_
      refine VO.mv ?_
      refine VO.mv ?_
      refine VO.y rfl (.add (c := ((sN d0 131072 + (sX d0 131072) : Nat) : Int)) rfl rfl (by omega) ⟨bd, bd⟩) ?_
      refine VO.as ?_
      refine VO.as ?_
      refine VO.as ?_
      refine VO.k8 0 2 3 4 5 6 7 23 ?_
      refine VC.ret ?_
      refine ⟨_, _, res_run (rs := [.tmp 2, .tmp 3, .tmp 4]) rfl (.tmp rfl (.tmp rfl (.tmp rfl .nil))), fun W_ hI => out_of (l := []) hI [] rfl rfl (mle_refl _) (fun hS_ => ?_)⟩
      dsimp only [packV]
      all_goals (first | rfl | (first | (rw [whole_no1 (by assumption)] <;> rfl) | (rw [whole_no2 (by omega)] <;> rfl) | (rw [whole_yes (by assumption) (by omega)] <;> rfl)))
theorem fRead_ok (W : World) {v0 : Value} {d0 : List UInt8} (h0 : Rd (.sl .byte) (wm W) [v0] d0) : CallR Try.prog 91 [v0] W (mnil) (fun v m' => ∃ (s0 : Value), v = .tuple #[s0, .int .i64 ((fRead d0).2.1), .int .i64 ((fRead d0).2.2)] ∧ Ow (.sl .byte) m' [s0] ((fRead d0).1)) := by
  obtain ⟨A0, c0, rfl, l0, k0⟩ := h0.slice
  simp only [maxLen] at k0
  refine CallR.ofA (n := 22) Try.func91 rfl rfl rfl ?_
  refine VC.rs ?_
  refine VO.as ?_
  refine VO.as ?_
  refine VO.as ?_
  refine VO.k4 0 2 3 4 ?_
  refine VC.rs ?_
  refine VO.mv ?_
  refine VO.callN 101 rfl fnOk109 rfl (fun W hW => fWhole_ok W (Rd.mono h0 (hW.at (i := 0) rfl))) (fun v1 m1 hv1 => ?_)
  subst hv1
  have hfa2 := fWhole_bounds d0
  refine VO.mv ?_
  refine VO.y rfl (.ext rfl rfl) ?_
  refine VO.y rfl (.ext rfl rfl) ?_
  refine VO.y rfl (.ext rfl rfl) ?_
  refine VO.as ?_
  refine VO.as ?_
  refine VO.as ?_
  refine VO.k7 0 2 3 4 5 6 7 ?_
  refine VC.seq ?_
  refine VC.rs ?_
  refine VO.mv ?_
  refine VO.y rfl (.not rfl) ?_
  refine VO.keep [0] [(0, wm W)] (by kernel_rfl) ?_
  refine VO.k8 0 2 3 4 5 6 7 15 ?_
  refine VC.condBN rfl (fun hc3 => ?_) (fun hc3 => ?_)
  · -- T
    refine VC.rs ?_
    refine VO.as ?_
    refine VO.as ?_
    refine VO.as ?_
    refine VO.k8 0 2 3 4 5 6 7 15 ?_
    refine VC.ret ?_
    refine outR ?_
    refine ⟨_, _, res_run (rs := [.tmp 2, .tmp 3, .tmp 4]) rfl (.tmp rfl (.tmp rfl (.tmp rfl .nil))), fun W_ hI => out_of (l := []) hI [] rfl rfl (mle_refl _) (fun hS_ => ?_)⟩
    dsimp only [packV]
    have he0 : ((fRead d0).1 : Ty.Den (.sl .byte)) = [] := by first | rfl | (first | (rw [fRead_bad (by first | assumption | simpa using ‹_›)] <;> rfl) | (rw [fRead_good (by first | assumption | simpa using ‹_›)] <;> rfl))
    refine ⟨Value.slice none (0) (0), ?_, ?_⟩
    rotate_left
    · rw [he0]; exact (Ow.nil _ _)
    all_goals (first | rfl | (first | (rw [fRead_bad (by first | assumption | simpa using ‹_›)] <;> rfl) | (rw [fRead_good (by first | assumption | simpa using ‹_›)] <;> rfl)))
  · -- F
    refine VC.skip ?_
    refine outN ?_
    refine VC.rs ?_
    refine VO.mv ?_
    refine VO.mv ?_
    refine VO.mv ?_
    obtain ⟨A4, hA4, hs4⟩ := h0.sub' 1 (((fWhole d0).1).toNat) (((fWhole d0).2.1).toNat) rfl bd bd
    refine VO.y rfl (.slI (((fWhole d0).1).toNat) (((fWhole d0).2.1).toNat) A4 rfl rfl rfl tsl25 bd bd hA4 bd bd) ?_
    refine VO.callN 105 rfl fnOk110 rfl (fun W hW => cloneB_ok W (Rd.mono hs4 (hW.at (i := 0) rfl)) bd) (fun v5 m5 hv5 => ?_)
    obtain ⟨s5_0, rfl, f5_0⟩ := hv5
    obtain ⟨A5_0, c5_0, eq5_0, l5_0, k5_0⟩ := f5_0.slice
    subst eq5_0
    simp only [maxLen] at k5_0
    refine VO.mv ?_
    refine VO.as ?_
    refine VO.as ?_
    refine VO.as ?_
    refine VO.k8 0 2 3 4 5 6 7 15 ?_
    refine VC.ret ?_
    refine ⟨_, _, res_run (rs := [.tmp 2, .tmp 3, .tmp 4]) rfl (.tmp rfl (.tmp rfl (.tmp rfl .nil))), fun W_ hI => out_of (l := [m5]) hI [105] rfl rfl (mle_refl _) (fun hS_ => ?_)⟩
    dsimp only [packV]
    have he0 : ((fRead d0).1 : Ty.Den (.sl .byte)) = ((d0.take (((fWhole d0).2.1).toNat)).drop (((fWhole d0).1).toNat)) := by first | rfl | (first | (rw [fRead_bad (by first | assumption | simpa using ‹_›)] <;> rfl) | (rw [fRead_good (by first | assumption | simpa using ‹_›)] <;> rfl))
    refine ⟨Value.slice A5_0 (((d0.take (((fWhole d0).2.1).toNat)).drop (((fWhole d0).1).toNat)).length) (c5_0), ?_, ?_⟩
    rotate_left
    · rw [he0]; exact (Ow.up (OwnL.ow (Ow.ownl f5_0 rfl mnil) rfl) (hS_.1 _ (.head _)))
    all_goals (first | rfl | (first | (rw [fRead_bad (by first | assumption | simpa using ‹_›)] <;> rfl) | (rw [fRead_good (by first | assumption | simpa using ‹_›)] <;> rfl)))
end
section
set_option linter.unusedVariables false
abbrev Tdiskstep : Ty := .pair (.int .i64) (.pair (.int .i64) (.pair (.sl .byte) (.int .i64)))
abbrev Ddiskstep := Int × Int × (List UInt8) × Int
instance decdiskstep : DecidableEq Ddiskstep := (@instDecidableEqProd _ _ inferInstance (@instDecidableEqProd _ _ inferInstance (@instDecidableEqProd _ _ inferInstance inferInstance)))
theorem open_diskstep {m : Mem} {cs : List Value} {x0 : Int} {x1 : Int} {x2 : List UInt8} {x3 : Int} (h : Rd Tdiskstep m cs (x0, x1, x2, x3)) : ∃ (A2 : Option Addr), ∃ (c2 : Nat), cs = [(.int .i64 x0 : Value), .int .i64 x1, .slice A2 x2.length c2, .int .i64 x3] ∧ inK .i64 x0 ∧ inK .i64 x1 ∧ Rd (.sl .byte) m [.slice A2 x2.length c2] x2 ∧ inK .i64 x3 := by
  obtain ⟨p1, q1, rfl, u1, w1⟩ := Rd.pair h
  obtain ⟨rfl, z2⟩ := (show _ = _ ∧ _ from u1)
  obtain ⟨p3, q3, rfl, u3, w3⟩ := Rd.pair w1
  obtain ⟨rfl, z4⟩ := (show _ = _ ∧ _ from u3)
  obtain ⟨p5, q5, rfl, u5, w5⟩ := Rd.pair w3
  have z6 := u5
  obtain ⟨A6, c6, rfl, _⟩ := Rd.slice1 u5
  obtain ⟨rfl, z7⟩ := (show _ = _ ∧ _ from w5)
  exact ⟨A6, c6, rfl, z2, z4, z6, z7⟩
theorem mk_diskstep {m : Mem} (x0 : Int) (x1 : Int) (x2 : List UInt8) (x3 : Int) (h0 : inK .i64 x0) (h1 : inK .i64 x1) {v2 : Value} (h2 : Rd (.sl .byte) m [v2] x2) (h3 : inK .i64 x3) : Rd Tdiskstep m [.int .i64 x0, .int .i64 x1, v2, .int .i64 x3] (x0, x1, x2, x3) := (Rd.mkPair (c1 := [_]) (show Rd (.int .i64) m [_] _ from ⟨rfl, h0⟩) (Rd.mkPair (c1 := [_]) (show Rd (.int .i64) m [_] _ from ⟨rfl, h1⟩) (Rd.mkPair (c1 := [_]) h2 (show Rd (.int .i64) m [_] _ from ⟨rfl, h3⟩))))
theorem mkO_diskstep {m : Mem} {n2 : Mem} (x0 : Int) (x1 : Int) (x2 : List UInt8) (x3 : Int) (hS : Seps m [n2]) (h0 : inK .i64 x0) (h1 : inK .i64 x1) {v2 : Value} (h2 : Ow (.sl .byte) n2 [v2] x2) (h3 : inK .i64 x3) : Ow Tdiskstep m [.int .i64 x0, .int .i64 x1, v2, .int .i64 x3] (x0, x1, x2, x3) := by
  obtain ⟨e1, la1, lb1, Sa1, Sb1⟩ := Seps.cut (l := []) (r := [n2]) hS
  obtain ⟨e2, la2, lb2, Sa2, Sb2⟩ := Seps.cut (l := []) (r := [n2]) Sb1
  obtain ⟨e3, la3, lb3, Sa3, Sb3⟩ := Seps.cut (l := [n2]) (r := []) Sb2
  exact (Ow.mkPair (c1 := [_]) e1 la1 lb1 (show Ow (.int .i64) _ [_] _ from ⟨rfl, h0⟩) (Ow.mkPair (c1 := [_]) e2 la2 lb2 (show Ow (.int .i64) _ [_] _ from ⟨rfl, h1⟩) (Ow.mkPair (c1 := [_]) e3 la3 lb3 (h2.up (Sa3.1 _ (.head _))) (show Ow (.int .i64) _ [_] _ from ⟨rfl, h3⟩))))
abbrev TdiskDisk : Ty := .pair .bool (.pair .bool (.pair .bool (.pair (.int .i64) (.pair (.int .i64) (.pair (.pair (.sl .byte) (.pair (.sl .byte) (.pair (.sl .byte) (.sl .byte)))) (.sl Tdiskstep))))))
abbrev DdiskDisk := Bool × Bool × Bool × Int × Int × ((List UInt8) × (List UInt8) × (List UInt8) × (List UInt8)) × (List Ddiskstep)
instance decdiskDisk : DecidableEq DdiskDisk := (@instDecidableEqProd _ _ inferInstance (@instDecidableEqProd _ _ inferInstance (@instDecidableEqProd _ _ inferInstance (@instDecidableEqProd _ _ inferInstance (@instDecidableEqProd _ _ inferInstance (@instDecidableEqProd _ _ (@instDecidableEqProd _ _ inferInstance (@instDecidableEqProd _ _ inferInstance (@instDecidableEqProd _ _ inferInstance inferInstance))) inferInstance))))))
theorem openO_diskDisk {m : Mem} {cs : List Value} {x0 : Bool} {x1 : Bool} {x2 : Bool} {x3 : Int} {x4 : Int} {x5 : List UInt8} {x6 : List UInt8} {x7 : List UInt8} {x8 : List UInt8} {x9 : List Ddiskstep} (h : Ow TdiskDisk m cs (x0, x1, x2, x3, x4, (x5, x6, x7, x8), x9)) : ∃ (A5 : Option Addr), ∃ (c5 : Nat), ∃ (A6 : Option Addr), ∃ (c6 : Nat), ∃ (A7 : Option Addr), ∃ (c7 : Nat), ∃ (A8 : Option Addr), ∃ (c8 : Nat), ∃ (A9 : Option Addr), ∃ (c9 : Nat), ∃ (n5 : Mem), ∃ (n6 : Mem), ∃ (n7 : Mem), ∃ (n8 : Mem), ∃ (n9 : Mem), cs = [(.bool x0 : Value), .bool x1, .bool x2, .int .i64 x3, .int .i64 x4, .slice A5 x5.length c5, .slice A6 x6.length c6, .slice A7 x7.length c7, .slice A8 x8.length c8, .slice A9 x9.length c9] ∧ Seps m [n5, n6, n7, n8, n9] ∧ inK .i64 x3 ∧ inK .i64 x4 ∧ Ow (.sl .byte) n5 [.slice A5 x5.length c5] x5 ∧ Ow (.sl .byte) n6 [.slice A6 x6.length c6] x6 ∧ Ow (.sl .byte) n7 [.slice A7 x7.length c7] x7 ∧ Ow (.sl .byte) n8 [.slice A8 x8.length c8] x8 ∧ Ow (.sl Tdiskstep) n9 [.slice A9 x9.length c9] x9 := by
  obtain ⟨p1, q1, ma1, mb1, rfl, dj1, la1, lb1, u1, w1⟩ := Ow.pair h
  obtain rfl := (show _ = _ from u1)
  obtain ⟨p3, q3, ma3, mb3, rfl, dj3, la3, lb3, u3, w3⟩ := Ow.pair w1
  obtain rfl := (show _ = _ from u3)
  obtain ⟨p5, q5, ma5, mb5, rfl, dj5, la5, lb5, u5, w5⟩ := Ow.pair w3
  obtain rfl := (show _ = _ from u5)
  obtain ⟨p7, q7, ma7, mb7, rfl, dj7, la7, lb7, u7, w7⟩ := Ow.pair w5
  obtain ⟨rfl, z8⟩ := (show _ = _ ∧ _ from u7)
  obtain ⟨p9, q9, ma9, mb9, rfl, dj9, la9, lb9, u9, w9⟩ := Ow.pair w7
  obtain ⟨rfl, z10⟩ := (show _ = _ ∧ _ from u9)
  obtain ⟨p11, q11, ma11, mb11, rfl, dj11, la11, lb11, u11, w11⟩ := Ow.pair w9
  obtain ⟨p12, q12, ma12, mb12, rfl, dj12, la12, lb12, u12, w12⟩ := Ow.pair u11
  have z13 := u12
  obtain ⟨A13, c13, rfl, _⟩ := Ow.slice1 u12
  obtain ⟨p14, q14, ma14, mb14, rfl, dj14, la14, lb14, u14, w14⟩ := Ow.pair w12
  have z15 := u14
  obtain ⟨A15, c15, rfl, _⟩ := Ow.slice1 u14
  obtain ⟨p16, q16, ma16, mb16, rfl, dj16, la16, lb16, u16, w16⟩ := Ow.pair w14
  have z17 := u16
  obtain ⟨A17, c17, rfl, _⟩ := Ow.slice1 u16
  have z18 := w16
  obtain ⟨A18, c18, rfl, _⟩ := Ow.slice1 w16
  have z19 := w11
  obtain ⟨A19, c19, rfl, _⟩ := Ow.slice1 w11
  exact ⟨A13, c13, A15, c15, A17, c17, A18, c18, A19, c19, _, _, _, _, _, rfl, (Seps.app dj1 la1 lb1 (Seps.nil _) (Seps.app dj3 la3 lb3 (Seps.nil _) (Seps.app dj5 la5 lb5 (Seps.nil _) (Seps.app dj7 la7 lb7 (Seps.nil _) (Seps.app dj9 la9 lb9 (Seps.nil _) (Seps.app dj11 la11 lb11 (Seps.app dj12 la12 lb12 (Seps.one (mle_refl _)) (Seps.app dj14 la14 lb14 (Seps.one (mle_refl _)) (Seps.app dj16 la16 lb16 (Seps.one (mle_refl _)) (Seps.one (mle_refl _))))) (Seps.one (mle_refl _)))))))), z8, z10, z13, z15, z17, z18, z19⟩
theorem mkO_diskDisk {m : Mem} {n5 n6 n7 n8 n9 : Mem} (x0 : Bool) (x1 : Bool) (x2 : Bool) (x3 : Int) (x4 : Int) (x5 : List UInt8) (x6 : List UInt8) (x7 : List UInt8) (x8 : List UInt8) (x9 : List Ddiskstep) (hS : Seps m [n5, n6, n7, n8, n9]) (h3 : inK .i64 x3) (h4 : inK .i64 x4) {v5 : Value} (h5 : Ow (.sl .byte) n5 [v5] x5) {v6 : Value} (h6 : Ow (.sl .byte) n6 [v6] x6) {v7 : Value} (h7 : Ow (.sl .byte) n7 [v7] x7) {v8 : Value} (h8 : Ow (.sl .byte) n8 [v8] x8) {v9 : Value} (h9 : Ow (.sl Tdiskstep) n9 [v9] x9) : Ow TdiskDisk m [.bool x0, .bool x1, .bool x2, .int .i64 x3, .int .i64 x4, v5, v6, v7, v8, v9] (x0, x1, x2, x3, x4, (x5, x6, x7, x8), x9) := by
  obtain ⟨e1, la1, lb1, Sa1, Sb1⟩ := Seps.cut (l := []) (r := [n5, n6, n7, n8, n9]) hS
  obtain ⟨e2, la2, lb2, Sa2, Sb2⟩ := Seps.cut (l := []) (r := [n5, n6, n7, n8, n9]) Sb1
  obtain ⟨e3, la3, lb3, Sa3, Sb3⟩ := Seps.cut (l := []) (r := [n5, n6, n7, n8, n9]) Sb2
  obtain ⟨e4, la4, lb4, Sa4, Sb4⟩ := Seps.cut (l := []) (r := [n5, n6, n7, n8, n9]) Sb3
  obtain ⟨e5, la5, lb5, Sa5, Sb5⟩ := Seps.cut (l := []) (r := [n5, n6, n7, n8, n9]) Sb4
  obtain ⟨e6, la6, lb6, Sa6, Sb6⟩ := Seps.cut (l := [n5, n6, n7, n8]) (r := [n9]) Sb5
  obtain ⟨e7, la7, lb7, Sa7, Sb7⟩ := Seps.cut (l := [n5]) (r := [n6, n7, n8]) Sa6
  obtain ⟨e8, la8, lb8, Sa8, Sb8⟩ := Seps.cut (l := [n6]) (r := [n7, n8]) Sb7
  obtain ⟨e9, la9, lb9, Sa9, Sb9⟩ := Seps.cut (l := [n7]) (r := [n8]) Sb8
  exact (Ow.mkPair (c1 := [_]) e1 la1 lb1 (show Ow .bool _ [_] _ from rfl) (Ow.mkPair (c1 := [_]) e2 la2 lb2 (show Ow .bool _ [_] _ from rfl) (Ow.mkPair (c1 := [_]) e3 la3 lb3 (show Ow .bool _ [_] _ from rfl) (Ow.mkPair (c1 := [_]) e4 la4 lb4 (show Ow (.int .i64) _ [_] _ from ⟨rfl, h3⟩) (Ow.mkPair (c1 := [_]) e5 la5 lb5 (show Ow (.int .i64) _ [_] _ from ⟨rfl, h4⟩) (Ow.mkPair (c1 := [_, _, _, _]) e6 la6 lb6 (Ow.mkPair (c1 := [_]) e7 la7 lb7 (h5.up (Sa7.1 _ (.head _))) (Ow.mkPair (c1 := [_]) e8 la8 lb8 (h6.up (Sa8.1 _ (.head _))) (Ow.mkPair (c1 := [_]) e9 la9 lb9 (h7.up (Sa9.1 _ (.head _))) (h8.up (Sb9.1 _ (.head _)))))) (h9.up (Sb6.1 _ (.head _)))))))))
theorem openP_diskDisk {m : Mem} {cs : List Value} {g : Nat} {x0 : Bool} {x1 : Bool} {x2 : Bool} {x3 : Int} {x4 : Int} {x5 : List UInt8} {x6 : List UInt8} {x7 : List UInt8} {x8 : List UInt8} {x9 : List Ddiskstep} (h : Ow (.ptr TdiskDisk) m cs (g, (x0, x1, x2, x3, x4, (x5, x6, x7, x8), x9))) : ∃ (E : TypeId), ∃ (A5 : Option Addr), ∃ (c5 : Nat), ∃ (A6 : Option Addr), ∃ (c6 : Nat), ∃ (A7 : Option Addr), ∃ (c7 : Nat), ∃ (A8 : Option Addr), ∃ (c8 : Nat), ∃ (A9 : Option Addr), ∃ (c9 : Nat), ∃ (n5 : Mem), ∃ (n6 : Mem), ∃ (n7 : Mem), ∃ (n8 : Mem), ∃ (n9 : Mem), cs = [.pointer (some ⟨g, 0, none⟩)] ∧ Seps m [mone g (.cells [(.bool x0 : Value), .bool x1, .bool x2, .int .i64 x3, .int .i64 x4, .slice A5 x5.length c5, .slice A6 x6.length c6, .slice A7 x7.length c7, .slice A8 x8.length c8, .slice A9 x9.length c9].toArray E (0, 0)), n5, n6, n7, n8, n9] ∧ inK .i64 x3 ∧ inK .i64 x4 ∧ Ow (.sl .byte) n5 [.slice A5 x5.length c5] x5 ∧ Ow (.sl .byte) n6 [.slice A6 x6.length c6] x6 ∧ Ow (.sl .byte) n7 [.slice A7 x7.length c7] x7 ∧ Ow (.sl .byte) n8 [.slice A8 x8.length c8] x8 ∧ Ow (.sl Tdiskstep) n9 [.slice A9 x9.length c9] x9 := by
  obtain ⟨rfl, rc, E, m1, hd, l0, l1, h1⟩ := Ow.opnP h
  obtain ⟨A5, c5, A6, c6, A7, c7, A8, c8, A9, c9, n5, n6, n7, n8, n9, rfl, hS, f3, f4, f5, f6, f7, f8, f9⟩ := openO_diskDisk h1
  exact ⟨E, A5, c5, A6, c6, A7, c7, A8, c8, A9, c9, n5, n6, n7, n8, n9, rfl, Seps.app hd l0 l1 (Seps.one (mle_refl _)) hS, f3, f4, f5, f6, f7, f8, f9⟩
theorem mkP_diskDisk {m : Mem} {g : Nat} {E : TypeId} {n5 n6 n7 n8 n9 : Mem}{v5 : Value}{v6 : Value}{v7 : Value}{v8 : Value}{v9 : Value} (x0 : Bool) (x1 : Bool) (x2 : Bool) (x3 : Int) (x4 : Int) (x5 : List UInt8) (x6 : List UInt8) (x7 : List UInt8) (x8 : List UInt8) (x9 : List Ddiskstep) (hS : Seps m [mone g (.cells [.bool x0, .bool x1, .bool x2, .int .i64 x3, .int .i64 x4, v5, v6, v7, v8, v9].toArray E (0, 0)), n5, n6, n7, n8, n9]) (h3 : inK .i64 x3) (h4 : inK .i64 x4) (h5 : Ow (.sl .byte) n5 [v5] x5) (h6 : Ow (.sl .byte) n6 [v6] x6) (h7 : Ow (.sl .byte) n7 [v7] x7) (h8 : Ow (.sl .byte) n8 [v8] x8) (h9 : Ow (.sl Tdiskstep) n9 [v9] x9) : Ow (.ptr TdiskDisk) m [.pointer (some ⟨g, 0, none⟩)] (g, (x0, x1, x2, x3, x4, (x5, x6, x7, x8), x9)) :=
  Ow.clsP hS fun hS => mkO_diskDisk x0 x1 x2 x3 x4 x5 x6 x7 x8 x9 hS h3 h4 h5 h6 h7 h8 h9
abbrev Dref05Raw := Int × Bool × Int × (List UInt8)
instance decref05Raw : DecidableEq Dref05Raw := (@instDecidableEqProd _ _ inferInstance (@instDecidableEqProd _ _ inferInstance (@instDecidableEqProd _ _ inferInstance inferInstance)))
abbrev Dref05Disk := Bool × ((List UInt8) × (List UInt8) × (List UInt8) × (List UInt8)) × (List Dref05Raw) × Bool × Bool × Int × Int
instance decref05Disk : DecidableEq Dref05Disk := (@instDecidableEqProd _ _ inferInstance (@instDecidableEqProd _ _ (@instDecidableEqProd _ _ inferInstance (@instDecidableEqProd _ _ inferInstance (@instDecidableEqProd _ _ inferInstance inferInstance))) (@instDecidableEqProd _ _ inferInstance (@instDecidableEqProd _ _ inferInstance (@instDecidableEqProd _ _ inferInstance (@instDecidableEqProd _ _ inferInstance inferInstance))))))
abbrev Dlaw05Act := Int × Int × Int × Int × (List UInt8)
instance declaw05Act : DecidableEq Dlaw05Act := (@instDecidableEqProd _ _ inferInstance (@instDecidableEqProd _ _ inferInstance (@instDecidableEqProd _ _ inferInstance (@instDecidableEqProd _ _ inferInstance inferInstance))))
end
section
set_option linter.unusedVariables false
abbrev Dur := Bytes × Bytes × Bytes × Bytes
abbrev DStep := Ddiskstep
abbrev DDisk := DdiskDisk
def getF (q : Dur) (f : Int) : Bytes := if f = 0 then q.1 else if f = 1 then q.2.1 else if f = 2 then q.2.2.1 else q.2.2.2
def setF (q : Dur) (f : Int) (b : Bytes) : Dur := if f = 0 then (b, q.2) else if f = 1 then (q.1, b, q.2.2) else if f = 2 then (q.1, q.2.1, b, q.2.2.2) else (q.1, q.2.1, q.2.2.1, b)
def doneB (b : Bytes) (s : DStep) : Bytes := if s.1 = 0 then b ++ s.2.2.1 else if s.1 = 1 then b.take s.2.2.2.toNat else b
def stepQ (q : Dur) (s : DStep) : Dur := setF q s.2.1 (doneB (getF q s.2.1) s)
def play (q : Dur) (l : List DStep) : Dur := l.foldl stepQ q
def heldStep (f : Int) (b : Bytes) (s : DStep) : Bytes := if s.2.1 = f then doneB b s else b
def heldB (q : Dur) (l : List DStep) (f : Int) : Bytes := l.foldl (heldStep f) (getF q f)
def inF (f : Int) : Prop := 0 ≤ f ∧ f < 4
instance (f : Int) : Decidable (inF f) := by unfold inF; infer_instance
theorem get_set {q : Dur} {f g : Int} {b : Bytes} (hf : inF f) (hg : inF g) : getF (setF q f b) g = if f = g then b else getF q g := by
  obtain ⟨h0, h1⟩ := hf; obtain ⟨h2, h3⟩ := hg
  obtain rfl | rfl | rfl | rfl : f = 0 ∨ f = 1 ∨ f = 2 ∨ f = 3 := by omega
  all_goals obtain rfl | rfl | rfl | rfl : g = 0 ∨ g = 1 ∨ g = 2 ∨ g = 3 := by omega
  all_goals rfl
/-- A step that may be pending. -/
def goodSt (q : Dur) (s : DStep) : Prop := (s.1 = 0 ∨ s.1 = 1) ∧ inF s.2.1 ∧ (s.1 = 0 → 1 ≤ s.2.2.1.length ∧ s.2.2.1.length ≤ 64) ∧ (s.1 = 1 → 0 ≤ s.2.2.2 ∧ s.2.2.2 ≤ (getF q s.2.1).length)
def goodL : Dur → List DStep → Prop
  | _, [] => True
  | q, s :: r => goodSt q s ∧ goodL (stepQ q s) r
theorem goodL_app : ∀ {l r : List DStep} {q : Dur}, goodL q (l ++ r) ↔ goodL q l ∧ goodL (play q l) r
  | [], r, q => by simp [goodL, play]
  | s :: l, r, q => by
    show goodSt q s ∧ goodL (stepQ q s) (l ++ r) ↔ (goodSt q s ∧ goodL (stepQ q s) l) ∧ goodL (play (stepQ q s) l) r
    rw [goodL_app (l := l), and_assoc]
theorem play_held : ∀ {l : List DStep} {q : Dur} {f : Int}, goodL q l → inF f → getF (play q l) f = heldB q l f
  | [], q, f, _, _ => rfl
  | s :: l, q, f, h, hf => by
    show getF (play (stepQ q s) l) f = _
    rw [play_held h.2 hf]
    show l.foldl (heldStep f) (getF (stepQ q s) f) = l.foldl (heldStep f) (heldStep f (getF q f) s)
    rw [stepQ, get_set h.1.2.1 hf]
    unfold heldStep
    split
    · rename_i he; rw [he]
    · rfl
def sizeQ (q : Dur) : Nat := q.1.length + q.2.1.length + q.2.2.1.length + q.2.2.2.length
def sizeL (l : List DStep) : Nat := (l.map fun s => s.2.2.1.length).sum
theorem sizeL_cons (s : DStep) (l : List DStep) : sizeL (s :: l) = s.2.2.1.length + sizeL l := by simp [sizeL]
theorem sizeL_app (l r : List DStep) : sizeL (l ++ r) = sizeL l + sizeL r := by simp [sizeL]
theorem getF_size (q : Dur) (f : Int) : (getF q f).length ≤ sizeQ q := by unfold getF sizeQ; split <;> (try split) <;> (try split) <;> omega
theorem setF_size {q : Dur} {f : Int} {b : Bytes} : sizeQ (setF q f b) + (getF q f).length = sizeQ q + b.length := by
  unfold setF getF sizeQ
  split
  · dsimp only; omega
  · split
    · dsimp only; omega
    · split <;> (dsimp only; omega)
theorem doneB_size (b : Bytes) (s : DStep) : (doneB b s).length ≤ b.length + s.2.2.1.length := by
  unfold doneB
  split
  · simp
  · split
    · simp only [List.length_take]; omega
    · omega
theorem stepQ_size (q : Dur) (s : DStep) : sizeQ (stepQ q s) ≤ sizeQ q + s.2.2.1.length := by
  have := setF_size (q := q) (f := s.2.1) (b := doneB (getF q s.2.1) s)
  have := doneB_size (getF q s.2.1) s
  unfold stepQ
  omega
theorem play_size : ∀ (l : List DStep) (q : Dur), sizeQ (play q l) ≤ sizeQ q + sizeL l
  | [], q => by simp [play, sizeL]
  | s :: l, q => by
    have h1 := play_size l (stepQ q s)
    have h2 := stepQ_size q s
    rw [sizeL_cons]
    show sizeQ (play (stepQ q s) l) ≤ _
    omega
theorem foldl_heldStep_size (f : Int) : ∀ (l : List DStep) (b : Bytes), (l.foldl (heldStep f) b).length ≤ b.length + sizeL l
  | [], b => by simp [sizeL]
  | s :: l, b => by
    have h1 := foldl_heldStep_size f l (heldStep f b s)
    have h2 : (heldStep f b s).length ≤ b.length + s.2.2.1.length := by
      unfold heldStep
      split
      · exact doneB_size b s
      · omega
    rw [sizeL_cons, List.foldl_cons]; omega
theorem heldB_size (q : Dur) (l : List DStep) (f : Int) : (heldB q l f).length ≤ sizeQ q + sizeL l := by
  have := foldl_heldStep_size f l (getF q f)
  have := getF_size q f
  unfold heldB; omega
def okD (d : DDisk) : Prop := goodL d.2.2.2.2.2.1 d.2.2.2.2.2.2 ∧ 0 ≤ d.2.2.2.1 ∧ 0 ≤ d.2.2.2.2.1
def wD (d : DDisk) : Nat := sizeQ d.2.2.2.2.2.1 + sizeL d.2.2.2.2.2.2 + d.2.2.2.2.2.2.length + d.2.2.2.2.1.toNat
def newD : DDisk := (true, false, false, 0, 0, ([], [], [], []), [])
theorem okD_new : okD newD := ⟨trivial, Int.le_refl _, Int.le_refl _⟩
def wrongD (d : DDisk) : Int := if d.1 = false then 1 else if d.2.1 = true then 6 else 0
def burnD (d : DDisk) : DDisk × Bool := if d.2.2.1 = true then (if d.2.2.2.1 = 0 then ((d.1, true, d.2.2), false) else ((d.1, d.2.1, d.2.2.1, d.2.2.2.1 - 1, d.2.2.2.2.1 + 1, d.2.2.2.2.2), true)) else ((d.1, d.2.1, d.2.2.1, d.2.2.2.1, d.2.2.2.2.1 + 1, d.2.2.2.2.2), true)
def addP (d : DDisk) (s : DStep) : DDisk := (d.1, d.2.1, d.2.2.1, d.2.2.2.1, d.2.2.2.2.1, d.2.2.2.2.2.1, d.2.2.2.2.2.2 ++ [s])
theorem getF0 {q : Dur} {f : Int} (h : f = 0) : getF q f = q.1 := by subst h; rfl
theorem getF1 {q : Dur} {f : Int} (h : f = 1) : getF q f = q.2.1 := by subst h; rfl
theorem getF2 {q : Dur} {f : Int} (h : f = 2) : getF q f = q.2.2.1 := by subst h; rfl
theorem getF3 {q : Dur} {f : Int} (h : f = 3) : getF q f = q.2.2.2 := by subst h; rfl
theorem setQ0 {q : Dur} {f : Int} {b : Bytes} (h : f = 0) : setF q f b = (b, q.2) := by subst h; rfl
theorem setQ1 {q : Dur} {f : Int} {b : Bytes} (h : f = 1) : setF q f b = (q.1, b, q.2.2) := by subst h; rfl
theorem setQ2 {q : Dur} {f : Int} {b : Bytes} (h : f = 2) : setF q f b = (q.1, q.2.1, b, q.2.2.2) := by subst h; rfl
theorem setQ3 {q : Dur} {f : Int} {b : Bytes} (h : f = 3) : setF q f b = (q.1, q.2.1, q.2.2.1, b) := by subst h; rfl
def settleD (d : DDisk) (k : Nat) : DDisk := (d.1, d.2.1, d.2.2.1, d.2.2.2.1, d.2.2.2.2.1, play d.2.2.2.2.2.1 (d.2.2.2.2.2.2.take k), d.2.2.2.2.2.2.drop k)
theorem get_take {α : Type} {l : List α} {n k : Nat} {x : α} (h : (l.take n)[k]? = some x) : l[k]? = some x := by
  rw [List.getElem?_take] at h
  split at h
  · exact h
  · cases h
theorem drop_split {α : Type} {l : List α} {k : Nat} {x : α} (h : l[k]? = some x) : l = l.take k ++ x :: l.drop (k + 1) := by
  obtain ⟨h1, h2⟩ := List.getElem?_eq_some_iff.1 h
  rw [← h2, ← List.drop_eq_getElem_cons h1, List.take_append_drop]
section
variable {q : Dur} {l : List DStep} {f : Int} {b : Bytes} {k : Nat} {s : DStep}
theorem held_next (hb : b = heldB q (l.take k) f) (hs : l[k]? = some s) : heldStep f b s = heldB q (l.take (k + 1)) f := by
  rw [hb, heldB, heldB, List.take_add_one, hs, List.foldl_append]; rfl
theorem held_yes (hb : b = heldB q (l.take k) f) (hs : l[k]? = some s) (h : s.2.1 = f) : doneB b s = heldB q (l.take (k + 1)) f := by
  rw [← held_next hb hs, heldStep, if_pos h]
theorem held_no (hb : b = heldB q (l.take k) f) (hs : l[k]? = some s) (h : ¬ s.2.1 = f) : b = heldB q (l.take (k + 1)) f := by
  rw [← held_next hb hs, heldStep, if_neg h]
theorem good_at (hg : goodL q l) (hs : l[k]? = some s) : goodSt (play q (l.take k)) s ∧ goodL q (l.take k) := by
  rw [drop_split hs, goodL_app] at hg
  exact ⟨hg.2.1, hg.1⟩
theorem held_cut (hg : goodL q l) (hb : b = heldB q (l.take k) f) (hs : l[k]? = some s) (hf : inF f) (h : s.2.1 = f) : s.1 = 1 → 0 ≤ s.2.2.2 ∧ s.2.2.2 ≤ b.length := by
  obtain ⟨h1, h2⟩ := good_at hg hs
  intro h3
  have := h1.2.2.2 h3
  rw [h, play_held h2 hf, ← hb] at this
  exact this
theorem sizeL_take (hs : l[k]? = some s) : sizeL (l.take k) + s.2.2.1.length ≤ sizeL l := by
  conv => rhs; rw [drop_split hs]
  rw [sizeL_app, sizeL_cons]; omega
theorem held_room (hb : b = heldB q (l.take k) f) (hs : l[k]? = some s) : b.length + s.2.2.1.length ≤ sizeQ q + sizeL l := by
  have h1 := heldB_size q (l.take k) f
  have h2 := sizeL_take hs
  rw [hb]; omega
theorem play_next {q0 : Dur} (hb : q = play q0 (l.take k)) (hs : l[k]? = some s) : stepQ q s = play q0 (l.take (k + 1)) := by
  rw [hb, play, play, List.take_add_one, hs, List.foldl_append]; rfl
theorem play_cut {q0 : Dur} (hg : goodL q0 l) (hb : q = play q0 (l.take k)) (hs : l[k]? = some s) : inF s.2.1 ∧ (s.1 = 1 → 0 ≤ s.2.2.2 ∧ s.2.2.2 ≤ (getF q s.2.1).length) := by
  obtain ⟨h1, h2⟩ := good_at hg hs
  subst hb
  exact ⟨h1.2.1, h1.2.2.2⟩
theorem play_room {q0 : Dur} (hb : q = play q0 (l.take k)) (hs : l[k]? = some s) : (getF q s.2.1).length + s.2.2.1.length ≤ sizeQ q0 + sizeL l := by
  have h1 := play_size (l.take k) q0
  have h2 := sizeL_take hs
  have h3 := getF_size q s.2.1
  subst hb; omega
end
end
section
set_option linter.unusedVariables false
theorem burn_ok {d : DDisk} (h : okD d) : okD (burnD d).1 := by
  obtain ⟨h1, h2, h3⟩ := h
  unfold burnD
  split
  · split
    · exact ⟨h1, h2, h3⟩
    · exact ⟨h1, by dsimp only; omega, by dsimp only; omega⟩
  · exact ⟨h1, h2, by dsimp only; omega⟩
theorem burn_w {d : DDisk} (h : okD d) : wD (burnD d).1 ≤ wD d + 1 := by
  have h3 := h.2.2
  unfold burnD
  split
  · split
    · show wD d ≤ _; omega
    · simp only [wD]; omega
  · simp only [wD]; omega
theorem burn_same (d : DDisk) : (burnD d).1.1 = d.1 ∧ (burnD d).1.2.2.2.2.2 = d.2.2.2.2.2 := by
  unfold burnD
  split
  · split <;> exact ⟨rfl, rfl⟩
  · exact ⟨rfl, rfl⟩
theorem add_ok {d : DDisk} {s : DStep} (h : okD d) (hs : goodSt (play d.2.2.2.2.2.1 d.2.2.2.2.2.2) s) : okD (addP d s) :=
  ⟨goodL_app.2 ⟨h.1, hs, trivial⟩, h.2⟩
theorem add_w (d : DDisk) (s : DStep) : wD (addP d s) = wD d + s.2.2.1.length + 1 := by
  simp only [wD, addP, sizeL_app, sizeL_cons, List.length_append, List.length_cons, List.length_nil]
  show sizeQ _ + (sizeL _ + (s.2.2.1.length + sizeL [])) + _ + _ = _
  simp only [sizeL, List.map_nil, List.sum_nil]
  omega
theorem settle_ok {d : DDisk} (k : Nat) (h : okD d) : okD (settleD d k) := by
  obtain ⟨h1, h2⟩ := h
  rw [← List.take_append_drop k d.2.2.2.2.2.2, goodL_app] at h1
  exact ⟨h1.2, h2⟩
theorem settle_w (d : DDisk) (k : Nat) : wD (settleD d k) ≤ wD d := by
  have h1 := play_size (d.2.2.2.2.2.2.take k) d.2.2.2.2.2.1
  have h2 : sizeL d.2.2.2.2.2.2 = sizeL (d.2.2.2.2.2.2.take k) + sizeL (d.2.2.2.2.2.2.drop k) := by rw [← sizeL_app, List.take_append_drop]
  simp only [wD, settleD, List.length_drop]
  omega
def writeGo : Nat → DDisk → Int → Bytes → DDisk × Int
  | 0, d, _, _ => (d, 0)
  | n + 1, d, f, b => if b.length = 0 then (d, 0) else if (burnD d).2 = true then writeGo n (addP (burnD d).1 (0, f, b.take 64, 0)) f (b.drop 64) else ((burnD d).1, 6)
def dWrite (d : DDisk) (f : Int) (b : Bytes) : DDisk × Int := if ¬ wrongD d = 0 then (d, wrongD d) else if ¬ inF f then (d, 2) else writeGo b.length d f b
section
variable {d d' : DDisk} {f : Int} {b : Bytes} {n m : Nat} {p : DDisk × Int}
theorem write_end (hp : p = writeGo n d f b) (hb : b.length = 0) : p = (d, 0) := by
  rw [hp]; cases n with
  | zero => rfl
  | succ n => exact if_pos hb
theorem write_off (hp : p = writeGo n d f b) (hn : b.length ≤ n) (hb : 0 < b.length) (h : ¬ (burnD d).2 = true) : p = ((burnD d).1, 6) := by
  rw [hp]; cases n with
  | zero => omega
  | succ n => rw [writeGo, if_neg (by omega), if_neg h]
theorem write_step (hp : p = writeGo n d f b) (hn : b.length ≤ n) (hb : 0 < b.length) (h : (burnD d).2 = true) (hm : m = min b.length 64) : p = writeGo (n - 1) (addP (burnD d).1 (0, f, b.take m, 0)) f (b.drop m) := by
  rw [hp]; cases n with
  | zero => omega
  | succ n =>
    rw [writeGo, if_neg (by omega), if_pos h]
    have h1 : b.take m = b.take 64 := by
      by_cases h0 : b.length ≤ 64
      · rw [hm, List.take_of_length_le (by omega), List.take_of_length_le h0]
      · rw [hm, Nat.min_eq_right (by omega)]
    have h2 : b.drop m = b.drop 64 := by
      by_cases h0 : b.length ≤ 64
      · rw [hm, List.drop_of_length_le (by omega), List.drop_of_length_le h0]
      · rw [hm, Nat.min_eq_right (by omega)]
    rw [h1, h2]; rfl
theorem step_ok (h : okD d) (hf : inF f) (hb : 0 < b.length) (hm : m = min b.length 64) : okD (addP (burnD d).1 (0, f, b.take m, 0)) :=
  add_ok (burn_ok h) ⟨.inl rfl, hf, fun _ => by simp only [List.length_take]; omega, fun h => by cases h⟩
theorem step_w (h : okD d) (hb : 0 < b.length) (hm : m = min b.length 64) : wD (addP (burnD d).1 (0, f, b.take m, 0)) + 3 * (b.drop m).length ≤ wD d + 3 * b.length := by
  have h1 := burn_w h
  rw [add_w]
  simp only [List.length_take, List.length_drop]
  omega
theorem writeGo_ok : ∀ (n : Nat) {d : DDisk} {b : Bytes}, okD d → inF f → okD (writeGo n d f b).1 ∧ wD (writeGo n d f b).1 ≤ wD d + 3 * b.length + 1
  | 0, d, b, h, _ => ⟨h, by show wD d ≤ _; omega⟩
  | n + 1, d, b, h, hf => by
    unfold writeGo
    split
    · exact ⟨h, by show wD d ≤ _; omega⟩
    · rename_i h0
      split
      · have e1 : b.take 64 = b.take (min b.length 64) := by
          by_cases h0 : b.length ≤ 64
          · rw [Nat.min_eq_left h0, List.take_of_length_le h0, List.take_of_length_le (Nat.le_refl _)]
          · rw [Nat.min_eq_right (by omega)]
        have h1 := step_ok (m := min b.length 64) h hf (by omega) rfl
        have h2 := step_w (f := f) (m := min b.length 64) h (by omega) rfl
        rw [← e1] at h1 h2
        obtain ⟨k1, k2⟩ := writeGo_ok n (b := b.drop 64) h1 hf
        simp only [List.length_drop] at h2 k2
        exact ⟨k1, by omega⟩
      · have := burn_w h
        exact ⟨burn_ok h, by dsimp only; omega⟩
end
theorem write_ok {d : DDisk} {f : Int} {b : Bytes} (h : okD d) : okD (dWrite d f b).1 := by
  unfold dWrite; split
  · exact h
  · split
    · exact h
    · rename_i hf; exact (writeGo_ok _ h (Decidable.not_not.1 hf)).1
theorem write_w {d : DDisk} {f : Int} {b : Bytes} (h : okD d) : wD (dWrite d f b).1 ≤ wD d + 3 * b.length + 1 := by
  unfold dWrite; split
  · show wD d ≤ _; omega
  · split
    · show wD d ≤ _; omega
    · rename_i hf; exact (writeGo_ok _ h (Decidable.not_not.1 hf)).2
def dCut (d : DDisk) (f n : Int) : DDisk × Int := if ¬ wrongD d = 0 then (d, wrongD d) else if ¬ inF f ∨ n < 0 ∨ ((heldB d.2.2.2.2.2.1 d.2.2.2.2.2.2 f).length : Int) < n then (d, 2) else
  if (burnD d).2 = true then (addP (burnD d).1 (1, f, [], n), 0) else ((burnD d).1, 6)
theorem cut_ok {d : DDisk} {f n : Int} (h : okD d) : okD (dCut d f n).1 := by
  unfold dCut; split
  · exact h
  · split
    · exact h
    · rename_i h1
      have hf : inF f := Decidable.byContradiction fun q => h1 (.inl q)
      have hn : ¬ n < 0 := fun q => h1 (.inr (.inl q))
      have hl : ¬ ((heldB d.2.2.2.2.2.1 d.2.2.2.2.2.2 f).length : Int) < n := fun q => h1 (.inr (.inr q))
      split
      · refine add_ok (burn_ok h) ⟨.inr rfl, hf, fun h => (by cases h), fun _ => ?_⟩
        rw [(burn_same d).2]
        rw [play_held h.1 hf]
        dsimp only; omega
      · exact burn_ok h
theorem cut_w {d : DDisk} {f n : Int} (h : okD d) : wD (dCut d f n).1 ≤ wD d + 2 := by
  have := burn_w h
  unfold dCut; split
  · show wD d ≤ _; omega
  · split
    · show wD d ≤ _; omega
    · split
      · rw [add_w]; simp only [List.length_nil]; omega
      · dsimp only; omega
def dSync (d : DDisk) : DDisk × Int := if ¬ wrongD d = 0 then (d, wrongD d) else if (burnD d).2 = true then (settleD (burnD d).1 (burnD d).1.2.2.2.2.2.2.length, 0) else ((burnD d).1, 6)
theorem sync_ok {d : DDisk} (h : okD d) : okD (dSync d).1 := by
  unfold dSync; split
  · exact h
  · split
    · exact settle_ok _ (burn_ok h)
    · exact burn_ok h
theorem sync_w {d : DDisk} (h : okD d) : wD (dSync d).1 ≤ wD d + 1 := by
  have h1 := burn_w h
  unfold dSync; split
  · show wD d ≤ _; omega
  · split
    · have := settle_w (burnD d).1 (burnD d).1.2.2.2.2.2.2.length
      dsimp only; omega
    · dsimp only; omega
def dRead (d : DDisk) (f : Int) : Bytes × Int := if ¬ wrongD d = 0 then ([], wrongD d) else if ¬ inF f then ([], 2) else (heldB d.2.2.2.2.2.1 d.2.2.2.2.2.2 f, 0)
theorem read_size (d : DDisk) (f : Int) : (dRead d f).1.length ≤ wD d := by
  have := heldB_size d.2.2.2.2.2.1 d.2.2.2.2.2.2 f
  unfold dRead; split
  · exact Nat.zero_le _
  · split
    · exact Nat.zero_le _
    · dsimp only [wD]; omega
def dFuse (d : DDisk) (n : Int) : DDisk × Int := if ¬ wrongD d = 0 then (d, wrongD d) else if n < 0 then (d, 2) else ((d.1, d.2.1, true, n, d.2.2.2.2), 0)
theorem fuse_ok {d : DDisk} {n : Int} (h : okD d) : okD (dFuse d n).1 := by
  unfold dFuse; split
  · exact h
  · split
    · exact h
    · exact ⟨h.1, by dsimp only; omega, h.2.2⟩
theorem fuse_w (d : DDisk) (n : Int) : wD (dFuse d n).1 = wD d := by
  unfold dFuse; split
  · rfl
  · split <;> rfl
def dPull (d : DDisk) : DDisk × Int := if ¬ wrongD d = 0 then (d, wrongD d) else ((d.1, true, d.2.2), 0)
theorem pull_ok {d : DDisk} (h : okD d) : okD (dPull d).1 := by unfold dPull; split <;> exact h
theorem pull_w (d : DDisk) : wD (dPull d).1 = wD d := by unfold dPull; split <;> rfl
def tornQ (d : DDisk) (t : Int) : Dur := match d.2.2.2.2.2.2 with
  | [] => d.2.2.2.2.2.1
  | s :: _ => if s.1 = 0 then stepQ d.2.2.2.2.2.1 (s.1, s.2.1, s.2.2.1.take (min t ((s.2.2.1.length : Int) - 1)).toNat, s.2.2.2) else d.2.2.2.2.2.1
def dStart (d : DDisk) (k t : Int) : DDisk × Int := if d.1 = false then (d, 1) else if d.2.1 = false ∨ k < 0 ∨ t < 0 then (d, 2) else
  ((d.1, false, false, 0, d.2.2.2.2.1, tornQ (settleD d (min k d.2.2.2.2.2.2.length).toNat) t, []), 0)
theorem torn_size (d : DDisk) (t : Int) : sizeQ (tornQ d t) ≤ sizeQ d.2.2.2.2.2.1 + sizeL d.2.2.2.2.2.2 := by
  unfold tornQ
  split
  · omega
  · rename_i s r hl
    rw [hl, sizeL_cons]
    split
    · have := stepQ_size d.2.2.2.2.2.1 (s.1, s.2.1, s.2.2.1.take (min t ((s.2.2.1.length : Int) - 1)).toNat, s.2.2.2)
      simp only [List.length_take] at this
      omega
    · omega
theorem start_ok {d : DDisk} {k t : Int} (h : okD d) : okD (dStart d k t).1 := by
  unfold dStart; split
  · exact h
  · split
    · exact h
    · exact ⟨trivial, Int.le_refl _, h.2.2⟩
theorem start_w (d : DDisk) (k t : Int) : wD (dStart d k t).1 ≤ wD d := by
  unfold dStart; split
  · show wD d ≤ _; omega
  · split
    · show wD d ≤ _; omega
    · have h1 := torn_size (settleD d (min k d.2.2.2.2.2.2.length).toNat) t
      have h2 := settle_w d (min k d.2.2.2.2.2.2.length).toNat
      simp only [wD] at h2 ⊢
      show sizeQ _ + 0 + 0 + _ ≤ _
      have : (settleD d (min k d.2.2.2.2.2.2.length).toNat).2.2.2.2.1 = d.2.2.2.2.1 := rfl
      omega
def dPending (d : DDisk) : Int := if d.1 = false then 0 else d.2.2.2.2.2.2.length
def dDurable (d : DDisk) (f : Int) : Bytes := if d.1 = false ∨ ¬ inF f then [] else getF d.2.2.2.2.2.1 f
theorem durable_size (d : DDisk) (f : Int) : (dDurable d f).length ≤ wD d := by
  have := getF_size d.2.2.2.2.2.1 f
  unfold dDurable; split
  · exact Nat.zero_le _
  · simp only [wD]; omega
theorem durable_go {d : DDisk} {f : Int} (h : ¬ d.1 = false) (h2 : ¬ ¬ inF f) : dDurable d f = getF d.2.2.2.2.2.1 f := if_neg fun q => q.elim h h2
theorem len_w (d : DDisk) : d.2.2.2.2.2.2.length ≤ wD d := by unfold wD; omega
theorem write_bad1 {d : DDisk} {f : Int} {b : Bytes} (h : ¬ wrongD d = 0) : dWrite d f b = (d, wrongD d) := if_pos h
theorem write_bad2 {d : DDisk} {f : Int} {b : Bytes} (h : ¬ ¬ wrongD d = 0) (h2 : ¬ inF f) : dWrite d f b = (d, 2) := by unfold dWrite; rw [if_neg h, if_pos h2]
theorem write_go {d : DDisk} {f : Int} {b : Bytes} (h : ¬ ¬ wrongD d = 0) (h2 : ¬ ¬ inF f) : dWrite d f b = writeGo b.length d f b := by unfold dWrite; rw [if_neg h, if_neg h2]
theorem cut_bad1 {d : DDisk} {f n : Int} (h : ¬ wrongD d = 0) : dCut d f n = (d, wrongD d) := if_pos h
theorem cut_bad2 {d : DDisk} {f n : Int} (h : ¬ ¬ wrongD d = 0) (h2 : ¬ inF f ∨ n < 0 ∨ ((heldB d.2.2.2.2.2.1 d.2.2.2.2.2.2 f).length : Int) < n) : dCut d f n = (d, 2) := by unfold dCut; rw [if_neg h, if_pos h2]
theorem cut_go {d : DDisk} {f n : Int} (h : ¬ ¬ wrongD d = 0) (h1 : ¬ ¬ inF f) (h2 : ¬ n < 0) (h3 : ¬ ((heldB d.2.2.2.2.2.1 d.2.2.2.2.2.2 f).length : Int) < n) (h4 : ¬ ¬ (burnD d).2 = true) : dCut d f n = (addP (burnD d).1 (1, f, [], n), 0) := by
  unfold dCut; rw [if_neg h, if_neg (fun q => q.elim h1 fun q => q.elim h2 h3), if_pos (Decidable.not_not.1 h4)]
theorem cut_off {d : DDisk} {f n : Int} (h : ¬ ¬ wrongD d = 0) (h1 : ¬ ¬ inF f) (h2 : ¬ n < 0) (h3 : ¬ ((heldB d.2.2.2.2.2.1 d.2.2.2.2.2.2 f).length : Int) < n) (h4 : ¬ (burnD d).2 = true) : dCut d f n = ((burnD d).1, 6) := by
  unfold dCut; rw [if_neg h, if_neg (fun q => q.elim h1 fun q => q.elim h2 h3), if_neg h4]
theorem sync_bad {d : DDisk} (h : ¬ wrongD d = 0) : dSync d = (d, wrongD d) := if_pos h
theorem sync_off {d : DDisk} (h : ¬ ¬ wrongD d = 0) (h4 : ¬ (burnD d).2 = true) : dSync d = ((burnD d).1, 6) := by unfold dSync; rw [if_neg h, if_neg h4]
theorem sync_go {d : DDisk} (h : ¬ ¬ wrongD d = 0) (h4 : ¬ ¬ (burnD d).2 = true) : dSync d = (settleD (burnD d).1 (burnD d).1.2.2.2.2.2.2.length, 0) := by unfold dSync; rw [if_neg h, if_pos (Decidable.not_not.1 h4)]
theorem start_bad1 {d : DDisk} {k t : Int} (h : d.1 = false) : dStart d k t = (d, 1) := if_pos h
theorem start_bad2 {d : DDisk} {k t : Int} (h : ¬ d.1 = false) (h2 : d.2.1 = false ∨ k < 0 ∨ t < 0) : dStart d k t = (d, 2) := by unfold dStart; rw [if_neg h, if_pos h2]
theorem start_go {d : DDisk} {k t : Int} (h : ¬ d.1 = false) (h2 : d.2.1 = true) (h3 : ¬ k < 0) (h4 : ¬ t < 0) : dStart d k t = ((d.1, false, false, 0, d.2.2.2.2.1, tornQ (settleD d (min k d.2.2.2.2.2.2.length).toNat) t, []), 0) := by
  unfold dStart; rw [if_neg h, if_neg (fun q => q.elim (fun q => absurd (h2.symm.trans q) (by decide)) fun q => q.elim h3 h4)]
theorem torn_nil {d : DDisk} {t : Int} (h : d.2.2.2.2.2.2.length ≤ 0) : tornQ d t = d.2.2.2.2.2.1 := by unfold tornQ; rw [List.eq_nil_of_length_eq_zero (Nat.le_zero.1 h)]
theorem torn_no {d : DDisk} {t : Int} {s : DStep} (hs : d.2.2.2.2.2.2[0]? = some s) (h : ¬ s.1 = 0) : tornQ d t = d.2.2.2.2.2.1 := by
  unfold tornQ
  cases hl : d.2.2.2.2.2.2 with
  | nil => rfl
  | cons x r => rw [hl] at hs; cases hs; exact if_neg h
theorem torn_yes {d : DDisk} {t : Int} {s : DStep} (hs : d.2.2.2.2.2.2[0]? = some s) (h : s.1 = 0) : tornQ d t = stepQ d.2.2.2.2.2.1 (s.1, s.2.1, s.2.2.1.take (min t ((s.2.2.1.length : Int) - 1)).toNat, s.2.2.2) := by
  unfold tornQ
  cases hl : d.2.2.2.2.2.2 with
  | nil => rw [hl] at hs; cases hs
  | cons x r => rw [hl] at hs; cases hs; exact if_pos h
theorem start_good {d : DDisk} {s : DStep} (h : okD d) (hs : d.2.2.2.2.2.2[0]? = some s) : inF s.2.1 ∧ (s.1 = 0 → 1 ≤ s.2.2.1.length) ∧ (getF d.2.2.2.2.2.1 s.2.1).length + s.2.2.1.length ≤ wD d := by
  obtain ⟨h1, _⟩ := good_at h.1 hs
  have h2 := play_room (q := d.2.2.2.2.2.1) (q0 := d.2.2.2.2.2.1) (by rfl) hs
  exact ⟨h1.2.1, fun h => (h1.2.2.1 h).1, by unfold wD; omega⟩
end
section
section
variable {P : Program} {n : Nat} {w0 : World} {σ : Env} {Ω : Ctx} {ops : Array Oper} {K : Env → Ctx → Prop}
theorem Stp.appO {e : Ty} {s x : Operand} {t xt et xe : TypeId} {b g c : Nat} {d : Option Nat} {gd : Option (Nat × Bool)} {ty : TypeId} {pos : String} {af : Array Edge} {v : Value} {xs : List e.Den} {y : e.Den} {yc z : List Value} (i j k : Nat) {m mj mk : Mem} (hsv : ev σ s = some v) (hxv : ev σ x = some (.slice (some ⟨g, 0, none⟩) 1 c)) (ht : tsl P t = some (et, e.sz, b)) (hz : tz P et = some z) (hzl : z.length = e.sz)
    (hm : cget Ω i = some m) (hj : cget (cdel Ω i) j = some mj) (hk : cget Ω k = some mk) (hown : Ow (.sl e) m [v] xs) (hy : Ow e mj yc y) (hxt : P.underlying xt = some (.slice xe)) (hc : cellsAt mk g 0 e.sz yc) (hml : xs.length + 1 ≤ maxLen) (hb : (xs.length + 1) * b ≤ 140737488355328) (hb0 : b ≠ 0) :
    Stp P n w0 σ Ω ⟨d, .call { callee := .builtin .append, args := [s, x].toArray, argTypes := [t, xt].toArray }, ty, pos, af, gd⟩ (fun v' Ω' => ∃ m', Ow (.sl e) m' [v'] (xs ++ [y]) ∧ Ω' = (i, m') :: cdel (cdel Ω i) j) :=
  fun a W he hi K' Q hK => by
    obtain ⟨m0, m1, rc, hS, hA, hL⟩ := hown.opn
    obtain ⟨q1, q2, q3, q4, _⟩ := hi.gets (ids := [i, j]) (l := [m, mj]) (by simp [cgets, hm, hj])
    have dmj : mdj m mj := by simpa using q1
    have d01 : mdj m0 m1 := by have := hS.2; simpa using this
    have l0 := hS.1 m0 (.head _)
    have l1 := hS.1 m1 (.tail _ (.head _))
    have d1j : mdj m1 mj := dmj.mono l1 (mle_refl _)
    have hnew : mdj m0 (mun m1 mj) := (mdj_un d01.symm (dmj.mono l0 (mle_refl _)).symm).symm
    have hΩ2 : Inv w0 ((i, m0) :: (j, mun m1 mj) :: cdel (cdel Ω i) j) W := by
      have hdel : Inv w0 (cdel (cdel Ω i) j) W := q4
      have f1 : ∀ p ∈ cdel (cdel Ω i) j, mdj m p.2 := fun p hp => q3 m (.head _) p hp
      have f2 : ∀ p ∈ cdel (cdel Ω i) j, mdj mj p.2 := fun p hp => q3 mj (.tail _ (.head _)) p hp
      refine ⟨hi.os, hi.tape, hi.output, hi.size, fun p hp => ?_, List.pairwise_cons.2 ⟨fun p hp => ?_, List.pairwise_cons.2 ⟨fun p hp => ?_, hdel.dj⟩⟩⟩
      · rcases List.mem_cons.1 hp with rfl | hp
        · exact l0.trans (hi.at hm)
        · rcases List.mem_cons.1 hp with rfl | hp
          · exact mun_le (l1.trans (hi.at hm)) (q2 mj (.tail _ (.head _)))
          · exact hdel.le p hp
      · rcases List.mem_cons.1 hp with rfl | hp
        · exact hnew
        · exact (f1 p hp).mono l0 (mle_refl _)
      · exact mdj_un ((f1 p hp).mono l1 (mle_refl _)) (f2 p hp)
    have hsrc : SrcW P W e.sz xt (.slice (some ⟨g, 0, none⟩) 1 c) 1 yc := by
      refine ⟨⟨_, hxt, by simp⟩, by rw [hy.len]; omega, fun W' hW => ?_, fun W' => by simp [Builtin.lenOf]⟩
      have hc2 : cellsAt (wm W') g 0 (1 * e.sz) yc := by
        rw [Nat.one_mul]
        refine hc.mono (fun q o ho => ?_)
        have := hi.at hk q o ho
        unfold wm at this ⊢
        rw [hW]; exact this
      exact firstCells_row hc2
    refine app_wp (i := i) (m := m0) (m0 := m0) he hΩ2 hsv hxv ht hz hzl (by simp [cget]) (mle_refl _) hA hsrc hy.nice hml hb hb0 fun v' m' W' hA' hi' => ?_
    have hc' : cset ((i, m0) :: (j, mun m1 mj) :: cdel (cdel Ω i) j) i m' = (i, m') :: (j, mun m1 mj) :: cdel (cdel Ω i) j := by simp [cset]
    rw [hc'] at hi'
    have hdj : mdj m' (mun m1 mj) := (List.pairwise_cons.1 hi'.dj).1 _ (.head _)
    have hall : OwAll (Ow e) (mun m1 mj) (rc ++ yc) (xs ++ [y]) := OwAll.app d1j (mle_un_left _ _) (mle_un_right d1j) hL (.one hy (mle_refl _))
    have how : Ow (.sl e) (mun m' (mun m1 mj)) [v'] (xs ++ [y]) := ⟨v', m', mun m1 mj, rc ++ yc, rfl, hdj, mle_un_left _ _, mle_un_right hdj, by simpa using hA', hall⟩
    refine hK v' ((i, mun m' (mun m1 mj)) :: cdel (cdel Ω i) j) W' ⟨_, how, rfl⟩ ?_
    refine ⟨hi'.os, hi'.tape, hi'.output, hi'.size, fun p hp => ?_, List.pairwise_cons.2 ⟨fun p hp => ?_, (List.pairwise_cons.1 (List.pairwise_cons.1 hi'.dj).2).2⟩⟩
    · rcases List.mem_cons.1 hp with rfl | hp
      · exact mun_le (hi'.le (i, m') (.head _)) (hi'.le (j, mun m1 mj) (.tail _ (.head _)))
      · exact hi'.le p (.tail _ (.tail _ hp))
    · exact mdj_un ((List.pairwise_cons.1 hi'.dj).1 p (.tail _ hp)) ((List.pairwise_cons.1 (List.pairwise_cons.1 hi'.dj).2).1 p hp)
theorem VD.appO {tt q : Nat} {ss : List (Nat × Bool)} {ΩS : Ctx} {ty : TypeId} {pos : String} {af : Array Edge} {e : Ty} {s x : Operand} {t xt et xe : TypeId} {b dd g c : Nat} {v : Value} {xs : List e.Den} {y : e.Den} {yc z : List Value} (i j k : Nat) {m mj mk : Mem} (hd : Nat.blt dd n = true) (ho : ops[q]? = some ⟨some dd, .call { callee := .builtin .append, args := [s, x].toArray, argTypes := [t, xt].toArray }, ty, pos, af, none⟩) (hsv : ev σ s = some v) (hxv : ev σ x = some (.slice (some ⟨g, 0, none⟩) 1 c)) (ht : tsl P t = some (et, e.sz, b)) (hz : tz P et = some z) (hzl : z.length = e.sz)
    (hm : cget Ω i = some m) (hj : cget (cdel Ω i) j = some mj) (hk : cget Ω k = some mk) (hown : Ow (.sl e) m [v] xs) (hy : Ow e mj yc y) (hxt : P.underlying xt = some (.slice xe)) (hc : cellsAt mk g 0 e.sz yc) (hml : xs.length + 1 ≤ maxLen) (hb : (xs.length + 1) * b ≤ 140737488355328) (hb0 : b ≠ 0) (hS : ∀ m' W, Inv w0 ((i, m') :: cdel (cdel Ω i) j) W → Inv w0 ΩS W)
    (h : ∀ v' m', Ow (.sl e) m' [v'] (xs ++ [y]) → VD P n w0 ops ΩS tt ss ((dd, v') :: σ) ((i, m') :: cdel (cdel Ω i) j) K) : VD P n w0 ops ΩS tt ((q, false) :: ss) σ Ω K :=
  VD.s (fun v => (dd, v) :: σ) ho (fun v _ he => he.put hd v) (.inl rfl) (Stp.appO i j k hsv hxv ht hz hzl hm hj hk hown hy hxt hc hml hb hb0) (fun _ _ ⟨m', _, hΩ⟩ W hW => hS m' W (by subst hΩ; exact hW)) (fun v _ ⟨m', hp, hΩ⟩ => hΩ ▸ h v m' hp)
end
end
section
set_option linter.unusedVariables false
set_option linter.unusedSimpArgs false
set_option maxRecDepth 4000
theorem fnOk73 : fnOk Try.prog 73 = true := by kernel_rfl
theorem tst101 : tst Try.prog 101 = some [(0, 1), (1, 1), (2, 1), (3, 1)] := by kernel_rfl
theorem tst72 : tst Try.prog 72 = some [(0, 1), (1, 1), (2, 1), (3, 1), (4, 1), (5, 4), (9, 1)] := by kernel_rfl
theorem tz72 : tz Try.prog 72 = some [.bool false, .bool false, .bool false, .int .i64 0, .int .i64 0, .slice none 0 0, .slice none 0 0, .slice none 0 0, .slice none 0 0, .slice none 0 0] := by kernel_rfl
theorem dNew_ok (W : World) : CallR Try.prog 28 [] W (mnil) (fun v m' => ∃ (s0 : Nat), v = .pointer (some ⟨s0, 0, none⟩) ∧ Ow (.ptr TdiskDisk) m' [.pointer (some ⟨s0, 0, none⟩)] (s0, newD)) := by
  refine CallR.ofA (n := 3) Try.func28 rfl rfl rfl ?_
  refine VC.rs ?_
  refine VO.as ?_
  refine VO.k1 0 ?_
  refine VC.rs ?_
  refine VO.y rfl (.bst (cs := [Value.bool true, Value.bool false, Value.bool false, Value.int .i64 (0), Value.int .i64 (0), Value.slice none (0) (0), Value.slice none (0) (0), Value.slice none (0) (0), Value.slice none (0) (0), Value.slice none (0) (0)]) rfl tst72 tz72 rfl) ?_
  refine VO.box (cs := [Value.bool true, Value.bool false, Value.bool false, Value.int .i64 (0), Value.int .i64 (0), Value.slice none (0) (0), Value.slice none (0) (0), Value.slice none (0) (0), Value.slice none (0) (0), Value.slice none (0) (0)]) 102 rfl rfl rfl (fun g1 => ?_)
  refine VO.as ?_
  refine VO.k1 0 ?_
  refine VC.ret ?_
  refine ⟨_, _, res_run (rs := [.tmp 0]) rfl (.tmp rfl .nil), fun W_ hI => out_of (l := [mone g1 (.cells [Value.bool true, Value.bool false, Value.bool false, Value.int .i64 (0), Value.int .i64 (0), Value.slice none (0) (0), Value.slice none (0) (0), Value.slice none (0) (0), Value.slice none (0) (0), Value.slice none (0) (0)].toArray 72 (0, 0))]) hI [102] rfl rfl (mle_refl _) (fun hS_ => ?_)⟩
  dsimp only [packV]
  have he0 : (newD : DdiskDisk) = (true, false, false, 0, 0, ([], [], [], []), []) := by first | rfl | (simp [*]; done)
  refine ⟨g1, ?_, ?_⟩
  rotate_left
  · rw [he0]; exact (mkP_diskDisk true false false 0 0 [] [] [] [] [] (Seps.nilAt 5 (Seps.nilAt 4 (Seps.nilAt 3 (Seps.nilAt 2 (Seps.nilAt 1 hS_))))) bdk bdk (Ow.nil _ _) (Ow.nil _ _) (Ow.nil _ _) (Ow.nil _ _) (Ow.nil _ _))
  all_goals (first | rfl | (simp [*]; done))
theorem dIs_ok (W : World) (d0 : Int) (h0 : inK .i64 d0) : CallR Try.prog 74 [.int .i64 d0] W (mnil) (fun v m' => v = .bool (decide (inF d0))) := by
  have h0' := h0; simp only [inK] at h0'
  refine CallR.ofA (n := 9) Try.func74 rfl rfl rfl ?_
  refine VC.rs ?_
  refine VO.as ?_
  refine VO.k2 0 2 ?_
  refine VC.rs ?_
  refine VO.mv ?_
  refine VO.y rfl (.geq rfl rfl) ?_
  refine VO.mv ?_
  refine VO.dec (t := 5) rfl (fun hc1 => ?_) (fun hc1 => ?_)
  · -- T
    refine VO.gy rfl ⟨_, rfl, rfl⟩ (.mv rfl) ?_
    refine VO.gy rfl ⟨_, rfl, rfl⟩ (.lss rfl rfl) ?_
    refine VO.y rfl (.pT rfl rfl) ?_
    refine VO.as ?_
    refine VO.k2 0 2 ?_
    refine VC.ret ?_
    refine ⟨_, _, res_run (rs := [.tmp 2]) rfl (.tmp rfl .nil), fun W_ hI => out_of (l := []) hI [] rfl rfl (mle_refl _) (fun hS_ => ?_)⟩
    dsimp only [packV]
    all_goals (first | rfl | (simp [inF, *]))
  · -- F
    refine VO.gN ?_
    refine VO.gN ?_
    refine VO.y rfl (.pF rfl rfl) ?_
    refine VO.as ?_
    refine VO.k2 0 2 ?_
    refine VC.ret ?_
    refine ⟨_, _, res_run (rs := [.tmp 2]) rfl (.tmp rfl .nil), fun W_ hI => out_of (l := []) hI [] rfl rfl (mle_refl _) (fun hS_ => ?_)⟩
    dsimp only [packV]
    all_goals (first | rfl | (simp [inF, *]))
theorem dNone_ok (W : World) {m0 : Mem} (hm : mle (m0) (wm W)) {g0 : Nat} {d0 : DdiskDisk} (h0 : Ow (.ptr TdiskDisk) m0 [.pointer (some ⟨g0, 0, none⟩)] (g0, d0)) : CallR Try.prog 73 [.pointer (some ⟨g0, 0, none⟩)] W (m0) (fun v m' => v = .bool (decide (d0.1 = false)) ∧ Ow (.ptr TdiskDisk) m' [.pointer (some ⟨g0, 0, none⟩)] (g0, d0)) := by
  refine CallR.ofB (n := 12) hm Try.func73 rfl rfl rfl ?_
  refine VC.rs ?_
  refine VO.as ?_
  refine VO.k2 0 2 ?_
  refine VC.rs ?_
  refine VO.mv ?_
  refine VO.y rfl (.pnil rfl rfl Try.underlying52 rfl) ?_
  refine VO.mv ?_
  refine VO.gy rfl ⟨_, rfl, rfl⟩ (.mv rfl) ?_
  refine VO.gy rfl ⟨_, rfl, rfl⟩ (.nilp rfl) ?_
  refine VO.gy rfl ⟨_, rfl, rfl⟩ (.fa rfl tst72 rfl) ?_
  obtain ⟨q1_E, q1_A5, q1_c5, q1_A6, q1_c6, q1_A7, q1_c7, q1_A8, q1_c8, q1_A9, q1_c9, q1_n5, q1_n6, q1_n7, q1_n8, q1_n9, _, q1_S, q1_3, q1_4, q1_5, q1_6, q1_7, q1_8, q1_9⟩ := openP_diskDisk (x0 := d0.1) (x1 := d0.2.1) (x2 := d0.2.2.1) (x3 := d0.2.2.2.1) (x4 := d0.2.2.2.2.1) (x5 := d0.2.2.2.2.2.1.1) (x6 := d0.2.2.2.2.2.1.2.1) (x7 := d0.2.2.2.2.2.1.2.2.1) (x8 := d0.2.2.2.2.2.1.2.2.2) (x9 := d0.2.2.2.2.2.2) h0
  simp only [inK] at q1_3
  simp only [inK] at q1_4
  have q1_r5 := Rd.room (q1_5.rd (mle_refl _))
  have q1_r6 := Rd.room (q1_6.rd (mle_refl _))
  have q1_r7 := Rd.room (q1_7.rd (mle_refl _))
  have q1_r8 := Rd.room (q1_8.rd (mle_refl _))
  have q1_r9 := Rd.room (q1_9.rd (mle_refl _))
  refine VO.inv _ (fun _ h => h.parts (i := 1) rfl q1_S [107, 102, 103, 104, 105, 106]) ?_
  refine VO.gy rfl ⟨_, rfl, rfl⟩ (.ld1 107 rfl tk4 rfl (cellsAt_one rfl rfl)) ?_
  refine VO.gy rfl ⟨_, rfl, rfl⟩ (.not rfl) ?_
  refine VO.y rfl (.pF rfl rfl) ?_
  refine VO.as ?_
  refine VO.gather (l := [mone g0 (.cells [Value.bool d0.1, Value.bool d0.2.1, Value.bool d0.2.2.1, Value.int .i64 (d0.2.2.2.1), Value.int .i64 (d0.2.2.2.2.1), Value.slice q1_A5 (d0.2.2.2.2.2.1.1.length) (q1_c5), Value.slice q1_A6 (d0.2.2.2.2.2.1.2.1.length) (q1_c6), Value.slice q1_A7 (d0.2.2.2.2.2.1.2.2.1.length) (q1_c7), Value.slice q1_A8 (d0.2.2.2.2.2.1.2.2.2.length) (q1_c8), Value.slice q1_A9 (d0.2.2.2.2.2.2.length) (q1_c9)].toArray q1_E (0, 0)), q1_n5, q1_n6, q1_n7, q1_n8, q1_n9]) 108 [107, 102, 103, 104, 105, 106] rfl (fun hg8 => ?_)
  have ho8 : Ow (.ptr TdiskDisk) (muns [mone g0 (.cells [Value.bool d0.1, Value.bool d0.2.1, Value.bool d0.2.2.1, Value.int .i64 (d0.2.2.2.1), Value.int .i64 (d0.2.2.2.2.1), Value.slice q1_A5 (d0.2.2.2.2.2.1.1.length) (q1_c5), Value.slice q1_A6 (d0.2.2.2.2.2.1.2.1.length) (q1_c6), Value.slice q1_A7 (d0.2.2.2.2.2.1.2.2.1.length) (q1_c7), Value.slice q1_A8 (d0.2.2.2.2.2.1.2.2.2.length) (q1_c8), Value.slice q1_A9 (d0.2.2.2.2.2.2.length) (q1_c9)].toArray q1_E (0, 0)), q1_n5, q1_n6, q1_n7, q1_n8, q1_n9]) [.pointer (some ⟨g0, 0, none⟩)] (g0, d0) := (show Ow (.ptr TdiskDisk) _ _ (_, d0) from (mkP_diskDisk d0.1 d0.2.1 d0.2.2.1 d0.2.2.2.1 d0.2.2.2.2.1 d0.2.2.2.2.2.1.1 d0.2.2.2.2.2.1.2.1 d0.2.2.2.2.2.1.2.2.1 d0.2.2.2.2.2.1.2.2.2 d0.2.2.2.2.2.2 hg8 bdk bdk (OwnL.ow (Ow.ownl q1_5 rfl mnil) rfl) (OwnL.ow (Ow.ownl q1_6 rfl mnil) rfl) (OwnL.ow (Ow.ownl q1_7 rfl mnil) rfl) (OwnL.ow (Ow.ownl q1_8 rfl mnil) rfl) q1_9))
  refine VO.k2 0 2 ?_
  refine VC.ret ?_
  refine ⟨_, _, res_run (rs := [.tmp 2]) rfl (.tmp rfl .nil), fun W_ hI => out_of (l := [muns [mone g0 (.cells [Value.bool d0.1, Value.bool d0.2.1, Value.bool d0.2.2.1, Value.int .i64 (d0.2.2.2.1), Value.int .i64 (d0.2.2.2.2.1), Value.slice q1_A5 (d0.2.2.2.2.2.1.1.length) (q1_c5), Value.slice q1_A6 (d0.2.2.2.2.2.1.2.1.length) (q1_c6), Value.slice q1_A7 (d0.2.2.2.2.2.1.2.2.1.length) (q1_c7), Value.slice q1_A8 (d0.2.2.2.2.2.1.2.2.2.length) (q1_c8), Value.slice q1_A9 (d0.2.2.2.2.2.2.length) (q1_c9)].toArray q1_E (0, 0)), q1_n5, q1_n6, q1_n7, q1_n8, q1_n9]]) hI [108] rfl rfl (mle_refl _) (fun hS_ => ?_)⟩
  dsimp only [packV]
  have hm0_ : (d0 : DdiskDisk) = d0 := by first | rfl | (simp [*]; done)
  refine ⟨?_, ?_⟩
  rotate_left
  · rw [hm0_]; exact (Ow.up ho8 (hS_.1 _ (.head _)))
  all_goals (first | rfl | (cases d0.1 <;> rfl))
theorem dWrong_ok (W : World) {m0 : Mem} (hm : mle (m0) (wm W)) {g0 : Nat} {d0 : DdiskDisk} (h0 : Ow (.ptr TdiskDisk) m0 [.pointer (some ⟨g0, 0, none⟩)] (g0, d0)) : CallR Try.prog 75 [.pointer (some ⟨g0, 0, none⟩)] W (m0) (fun v m' => v = .int .i64 (wrongD d0) ∧ Ow (.ptr TdiskDisk) m' [.pointer (some ⟨g0, 0, none⟩)] (g0, d0)) := by
  refine CallR.ofB (n := 11) hm Try.func75 rfl rfl rfl ?_
  refine VC.rs ?_
  refine VO.as ?_
  refine VO.k2 0 2 ?_
  refine VC.seq ?_
  refine VC.block ?_
  refine VC.rs ?_
  refine VO.mv ?_
  refine VO.call 1 rfl fnOk73 rfl rfl (fun W hW => dNone_ok W (hW.at (i := 1) rfl) h0) (fun v1 m1 hv1 => ?_)
  obtain ⟨rfl, w1_0⟩ := hv1
  refine VO.as ?_
  refine VO.k3 0 2 3 ?_
  refine VC.cond rfl (fun hc2 => ?_) (fun hc2 => ?_)
  · -- T
    refine VC.rs ?_
    refine VO.as ?_
    refine VO.keep [1, 0] [(1, m1), (0, mout (wm W) (m0))] (by kernel_rfl) ?_
    refine VO.k3 0 2 3 ?_
    refine VC.ret ?_
    refine outBR ?_
    refine outR ?_
    refine ⟨_, _, res_run (rs := [.tmp 2]) rfl (.tmp rfl .nil), fun W_ hI => out_of (l := [m1]) hI [1] rfl rfl (mle_refl _) (fun hS_ => ?_)⟩
    dsimp only [packV]
    have hm0_ : (d0 : DdiskDisk) = d0 := by first | rfl | (simp [*]; done)
    refine ⟨?_, ?_⟩
    rotate_left
    · rw [hm0_]; exact (Ow.up w1_0 (hS_.1 _ (.head _)))
    all_goals (first | rfl | (simp [wrongD, *]))
  · -- F
    refine VC.rs ?_
    refine VO.mv ?_
    refine VO.y rfl (.nilp rfl) ?_
    refine VO.y rfl (.fa rfl tst72 rfl) ?_
    obtain ⟨q3_E, q3_A5, q3_c5, q3_A6, q3_c6, q3_A7, q3_c7, q3_A8, q3_c8, q3_A9, q3_c9, q3_n5, q3_n6, q3_n7, q3_n8, q3_n9, _, q3_S, q3_3, q3_4, q3_5, q3_6, q3_7, q3_8, q3_9⟩ := openP_diskDisk (x0 := d0.1) (x1 := d0.2.1) (x2 := d0.2.2.1) (x3 := d0.2.2.2.1) (x4 := d0.2.2.2.2.1) (x5 := d0.2.2.2.2.2.1.1) (x6 := d0.2.2.2.2.2.1.2.1) (x7 := d0.2.2.2.2.2.1.2.2.1) (x8 := d0.2.2.2.2.2.1.2.2.2) (x9 := d0.2.2.2.2.2.2) w1_0
    simp only [inK] at q3_3
    simp only [inK] at q3_4
    have q3_r5 := Rd.room (q3_5.rd (mle_refl _))
    have q3_r6 := Rd.room (q3_6.rd (mle_refl _))
    have q3_r7 := Rd.room (q3_7.rd (mle_refl _))
    have q3_r8 := Rd.room (q3_8.rd (mle_refl _))
    have q3_r9 := Rd.room (q3_9.rd (mle_refl _))
    refine VO.inv _ (fun _ h => h.parts (i := 1) rfl q3_S [109, 104, 105, 106, 107, 108]) ?_
    refine VO.y rfl (.ld1 109 rfl tk4 rfl (cellsAt_one rfl rfl)) ?_
    refine VO.as ?_
    refine VO.gather (l := [mone g0 (.cells [Value.bool d0.1, Value.bool d0.2.1, Value.bool d0.2.2.1, Value.int .i64 (d0.2.2.2.1), Value.int .i64 (d0.2.2.2.2.1), Value.slice q3_A5 (d0.2.2.2.2.2.1.1.length) (q3_c5), Value.slice q3_A6 (d0.2.2.2.2.2.1.2.1.length) (q3_c6), Value.slice q3_A7 (d0.2.2.2.2.2.1.2.2.1.length) (q3_c7), Value.slice q3_A8 (d0.2.2.2.2.2.1.2.2.2.length) (q3_c8), Value.slice q3_A9 (d0.2.2.2.2.2.2.length) (q3_c9)].toArray q3_E (0, 0)), q3_n5, q3_n6, q3_n7, q3_n8, q3_n9]) 110 [109, 104, 105, 106, 107, 108] rfl (fun hg10 => ?_)
    have ho10 : Ow (.ptr TdiskDisk) (muns [mone g0 (.cells [Value.bool d0.1, Value.bool d0.2.1, Value.bool d0.2.2.1, Value.int .i64 (d0.2.2.2.1), Value.int .i64 (d0.2.2.2.2.1), Value.slice q3_A5 (d0.2.2.2.2.2.1.1.length) (q3_c5), Value.slice q3_A6 (d0.2.2.2.2.2.1.2.1.length) (q3_c6), Value.slice q3_A7 (d0.2.2.2.2.2.1.2.2.1.length) (q3_c7), Value.slice q3_A8 (d0.2.2.2.2.2.1.2.2.2.length) (q3_c8), Value.slice q3_A9 (d0.2.2.2.2.2.2.length) (q3_c9)].toArray q3_E (0, 0)), q3_n5, q3_n6, q3_n7, q3_n8, q3_n9]) [.pointer (some ⟨g0, 0, none⟩)] (g0, d0) := (show Ow (.ptr TdiskDisk) _ _ (_, d0) from (mkP_diskDisk d0.1 d0.2.1 d0.2.2.1 d0.2.2.2.1 d0.2.2.2.2.1 d0.2.2.2.2.2.1.1 d0.2.2.2.2.2.1.2.1 d0.2.2.2.2.2.1.2.2.1 d0.2.2.2.2.2.1.2.2.2 d0.2.2.2.2.2.2 hg10 bdk bdk (OwnL.ow (Ow.ownl q3_5 rfl mnil) rfl) (OwnL.ow (Ow.ownl q3_6 rfl mnil) rfl) (OwnL.ow (Ow.ownl q3_7 rfl mnil) rfl) (OwnL.ow (Ow.ownl q3_8 rfl mnil) rfl) q3_9))
    refine VO.keep [110, 0] [(110, muns [mone g0 (.cells [Value.bool d0.1, Value.bool d0.2.1, Value.bool d0.2.2.1, Value.int .i64 (d0.2.2.2.1), Value.int .i64 (d0.2.2.2.2.1), Value.slice q3_A5 (d0.2.2.2.2.2.1.1.length) (q3_c5), Value.slice q3_A6 (d0.2.2.2.2.2.1.2.1.length) (q3_c6), Value.slice q3_A7 (d0.2.2.2.2.2.1.2.2.1.length) (q3_c7), Value.slice q3_A8 (d0.2.2.2.2.2.1.2.2.2.length) (q3_c8), Value.slice q3_A9 (d0.2.2.2.2.2.2.length) (q3_c9)].toArray q3_E (0, 0)), q3_n5, q3_n6, q3_n7, q3_n8, q3_n9]), (0, mout (wm W) (m0))] (by kernel_rfl) ?_
    refine VO.k4 0 2 3 6 ?_
    refine VC.condB rfl (fun hc11 => ?_) (fun hc11 => ?_)
    · -- FT
      refine VC.rs ?_
      refine VO.as ?_
      refine VO.k4 0 2 3 6 ?_
      refine VC.ret ?_
      refine outBR ?_
      refine outR ?_
      refine ⟨_, _, res_run (rs := [.tmp 2]) rfl (.tmp rfl .nil), fun W_ hI => out_of (l := [muns [mone g0 (.cells [Value.bool d0.1, Value.bool d0.2.1, Value.bool d0.2.2.1, Value.int .i64 (d0.2.2.2.1), Value.int .i64 (d0.2.2.2.2.1), Value.slice q3_A5 (d0.2.2.2.2.2.1.1.length) (q3_c5), Value.slice q3_A6 (d0.2.2.2.2.2.1.2.1.length) (q3_c6), Value.slice q3_A7 (d0.2.2.2.2.2.1.2.2.1.length) (q3_c7), Value.slice q3_A8 (d0.2.2.2.2.2.1.2.2.2.length) (q3_c8), Value.slice q3_A9 (d0.2.2.2.2.2.2.length) (q3_c9)].toArray q3_E (0, 0)), q3_n5, q3_n6, q3_n7, q3_n8, q3_n9]]) hI [110] rfl rfl (mle_refl _) (fun hS_ => ?_)⟩
      dsimp only [packV]
      have hm0_ : (d0 : DdiskDisk) = d0 := by first | rfl | (simp [*]; done)
      refine ⟨?_, ?_⟩
      rotate_left
      · rw [hm0_]; exact (Ow.up ho10 (hS_.1 _ (.head _)))
      all_goals (first | rfl | (simp [wrongD, *]))
    · -- FF
      refine VC.skip ?_
      refine outBN ?_
      refine outN ?_
      refine VC.rs ?_
      refine VO.as ?_
      refine VO.k4 0 2 3 6 ?_
      refine VC.ret ?_
      refine ⟨_, _, res_run (rs := [.tmp 2]) rfl (.tmp rfl .nil), fun W_ hI => out_of (l := [muns [mone g0 (.cells [Value.bool d0.1, Value.bool d0.2.1, Value.bool d0.2.2.1, Value.int .i64 (d0.2.2.2.1), Value.int .i64 (d0.2.2.2.2.1), Value.slice q3_A5 (d0.2.2.2.2.2.1.1.length) (q3_c5), Value.slice q3_A6 (d0.2.2.2.2.2.1.2.1.length) (q3_c6), Value.slice q3_A7 (d0.2.2.2.2.2.1.2.2.1.length) (q3_c7), Value.slice q3_A8 (d0.2.2.2.2.2.1.2.2.2.length) (q3_c8), Value.slice q3_A9 (d0.2.2.2.2.2.2.length) (q3_c9)].toArray q3_E (0, 0)), q3_n5, q3_n6, q3_n7, q3_n8, q3_n9]]) hI [110] rfl rfl (mle_refl _) (fun hS_ => ?_)⟩
      dsimp only [packV]
      have hm0_ : (d0 : DdiskDisk) = d0 := by first | rfl | (simp [*]; done)
      refine ⟨?_, ?_⟩
      rotate_left
      · rw [hm0_]; exact (Ow.up ho10 (hS_.1 _ (.head _)))
      all_goals (first | rfl | (simp [wrongD, *]))
theorem dBurn_ok (W : World) {m0 : Mem} (hm : mle (m0) (wm W)) {g0 : Nat} {d0 : DdiskDisk} (h0 : Ow (.ptr TdiskDisk) m0 [.pointer (some ⟨g0, 0, none⟩)] (g0, d0)) (e0 : okD d0) (e1 : wD d0 ≤ 2*1000000000000) : CallR Try.prog 76 [.pointer (some ⟨g0, 0, none⟩)] W (m0) (fun v m' => v = .bool (decide ((burnD d0).2 = true)) ∧ Ow (.ptr TdiskDisk) m' [.pointer (some ⟨g0, 0, none⟩)] (g0, (burnD d0).1)) := by
  obtain ⟨hg, hfu, hst⟩ := e0; simp only [wD] at e1
  refine CallR.ofB (n := 29) hm Try.func76 rfl rfl rfl ?_
  refine VC.rs ?_
  refine VO.as ?_
  refine VO.k2 0 2 ?_
  refine VC.seq ?_
  refine VC.rs ?_
  refine VO.mv ?_
  refine VO.y rfl (.nilp rfl) ?_
  refine VO.y rfl (.fa rfl tst72 rfl) ?_
  obtain ⟨q1_E, q1_A5, q1_c5, q1_A6, q1_c6, q1_A7, q1_c7, q1_A8, q1_c8, q1_A9, q1_c9, q1_n5, q1_n6, q1_n7, q1_n8, q1_n9, _, q1_S, q1_3, q1_4, q1_5, q1_6, q1_7, q1_8, q1_9⟩ := openP_diskDisk (x0 := d0.1) (x1 := d0.2.1) (x2 := d0.2.2.1) (x3 := d0.2.2.2.1) (x4 := d0.2.2.2.2.1) (x5 := d0.2.2.2.2.2.1.1) (x6 := d0.2.2.2.2.2.1.2.1) (x7 := d0.2.2.2.2.2.1.2.2.1) (x8 := d0.2.2.2.2.2.1.2.2.2) (x9 := d0.2.2.2.2.2.2) h0
  simp only [inK] at q1_3
  simp only [inK] at q1_4
  have q1_r5 := Rd.room (q1_5.rd (mle_refl _))
  have q1_r6 := Rd.room (q1_6.rd (mle_refl _))
  have q1_r7 := Rd.room (q1_7.rd (mle_refl _))
  have q1_r8 := Rd.room (q1_8.rd (mle_refl _))
  have q1_r9 := Rd.room (q1_9.rd (mle_refl _))
  refine VO.inv _ (fun _ h => h.parts (i := 1) rfl q1_S [107, 102, 103, 104, 105, 106]) ?_
  refine VO.y rfl (.ld1 107 rfl tk4 rfl (cellsAt_one rfl rfl)) ?_
  refine VO.gather (l := [mone g0 (.cells [Value.bool d0.1, Value.bool d0.2.1, Value.bool d0.2.2.1, Value.int .i64 (d0.2.2.2.1), Value.int .i64 (d0.2.2.2.2.1), Value.slice q1_A5 (d0.2.2.2.2.2.1.1.length) (q1_c5), Value.slice q1_A6 (d0.2.2.2.2.2.1.2.1.length) (q1_c6), Value.slice q1_A7 (d0.2.2.2.2.2.1.2.2.1.length) (q1_c7), Value.slice q1_A8 (d0.2.2.2.2.2.1.2.2.2.length) (q1_c8), Value.slice q1_A9 (d0.2.2.2.2.2.2.length) (q1_c9)].toArray q1_E (0, 0)), q1_n5, q1_n6, q1_n7, q1_n8, q1_n9]) 108 [107, 102, 103, 104, 105, 106] rfl (fun hg8 => ?_)
  have ho8 : Ow (.ptr TdiskDisk) (muns [mone g0 (.cells [Value.bool d0.1, Value.bool d0.2.1, Value.bool d0.2.2.1, Value.int .i64 (d0.2.2.2.1), Value.int .i64 (d0.2.2.2.2.1), Value.slice q1_A5 (d0.2.2.2.2.2.1.1.length) (q1_c5), Value.slice q1_A6 (d0.2.2.2.2.2.1.2.1.length) (q1_c6), Value.slice q1_A7 (d0.2.2.2.2.2.1.2.2.1.length) (q1_c7), Value.slice q1_A8 (d0.2.2.2.2.2.1.2.2.2.length) (q1_c8), Value.slice q1_A9 (d0.2.2.2.2.2.2.length) (q1_c9)].toArray q1_E (0, 0)), q1_n5, q1_n6, q1_n7, q1_n8, q1_n9]) [.pointer (some ⟨g0, 0, none⟩)] (g0, d0) := (show Ow (.ptr TdiskDisk) _ _ (_, d0) from (mkP_diskDisk d0.1 d0.2.1 d0.2.2.1 d0.2.2.2.1 d0.2.2.2.2.1 d0.2.2.2.2.2.1.1 d0.2.2.2.2.2.1.2.1 d0.2.2.2.2.2.1.2.2.1 d0.2.2.2.2.2.1.2.2.2 d0.2.2.2.2.2.2 hg8 bdk bdk (OwnL.ow (Ow.ownl q1_5 rfl mnil) rfl) (OwnL.ow (Ow.ownl q1_6 rfl mnil) rfl) (OwnL.ow (Ow.ownl q1_7 rfl mnil) rfl) (OwnL.ow (Ow.ownl q1_8 rfl mnil) rfl) q1_9))
  refine VO.k3 0 2 6 ?_
  refine VC.condB rfl (fun hc9 => ?_) (fun hc9 => ?_)
  · -- T
    refine VC.seq ?_
    refine VC.rs ?_
    refine VO.mv ?_
    refine VO.y rfl (.nilp rfl) ?_
    refine VO.y rfl (.fa rfl tst72 rfl) ?_
    obtain ⟨q10_E, q10_A5, q10_c5, q10_A6, q10_c6, q10_A7, q10_c7, q10_A8, q10_c8, q10_A9, q10_c9, q10_n5, q10_n6, q10_n7, q10_n8, q10_n9, _, q10_S, q10_3, q10_4, q10_5, q10_6, q10_7, q10_8, q10_9⟩ := openP_diskDisk (x0 := d0.1) (x1 := d0.2.1) (x2 := d0.2.2.1) (x3 := d0.2.2.2.1) (x4 := d0.2.2.2.2.1) (x5 := d0.2.2.2.2.2.1.1) (x6 := d0.2.2.2.2.2.1.2.1) (x7 := d0.2.2.2.2.2.1.2.2.1) (x8 := d0.2.2.2.2.2.1.2.2.2) (x9 := d0.2.2.2.2.2.2) ho8
    simp only [inK] at q10_3
    simp only [inK] at q10_4
    have q10_r5 := Rd.room (q10_5.rd (mle_refl _))
    have q10_r6 := Rd.room (q10_6.rd (mle_refl _))
    have q10_r7 := Rd.room (q10_7.rd (mle_refl _))
    have q10_r8 := Rd.room (q10_8.rd (mle_refl _))
    have q10_r9 := Rd.room (q10_9.rd (mle_refl _))
    refine VO.inv _ (fun _ h => h.parts (i := 108) rfl q10_S [116, 111, 112, 113, 114, 115]) ?_
    refine VO.y rfl (.ld1 116 rfl tk3 rfl (cellsAt_one rfl rfl)) ?_
    refine VO.y rfl (.eql rfl rfl) ?_
    refine VO.gather (l := [mone g0 (.cells [Value.bool d0.1, Value.bool d0.2.1, Value.bool d0.2.2.1, Value.int .i64 (d0.2.2.2.1), Value.int .i64 (d0.2.2.2.2.1), Value.slice q10_A5 (d0.2.2.2.2.2.1.1.length) (q10_c5), Value.slice q10_A6 (d0.2.2.2.2.2.1.2.1.length) (q10_c6), Value.slice q10_A7 (d0.2.2.2.2.2.1.2.2.1.length) (q10_c7), Value.slice q10_A8 (d0.2.2.2.2.2.1.2.2.2.length) (q10_c8), Value.slice q10_A9 (d0.2.2.2.2.2.2.length) (q10_c9)].toArray q10_E (0, 0)), q10_n5, q10_n6, q10_n7, q10_n8, q10_n9]) 117 [116, 111, 112, 113, 114, 115] rfl (fun hg17 => ?_)
    have ho17 : Ow (.ptr TdiskDisk) (muns [mone g0 (.cells [Value.bool d0.1, Value.bool d0.2.1, Value.bool d0.2.2.1, Value.int .i64 (d0.2.2.2.1), Value.int .i64 (d0.2.2.2.2.1), Value.slice q10_A5 (d0.2.2.2.2.2.1.1.length) (q10_c5), Value.slice q10_A6 (d0.2.2.2.2.2.1.2.1.length) (q10_c6), Value.slice q10_A7 (d0.2.2.2.2.2.1.2.2.1.length) (q10_c7), Value.slice q10_A8 (d0.2.2.2.2.2.1.2.2.2.length) (q10_c8), Value.slice q10_A9 (d0.2.2.2.2.2.2.length) (q10_c9)].toArray q10_E (0, 0)), q10_n5, q10_n6, q10_n7, q10_n8, q10_n9]) [.pointer (some ⟨g0, 0, none⟩)] (g0, d0) := (show Ow (.ptr TdiskDisk) _ _ (_, d0) from (mkP_diskDisk d0.1 d0.2.1 d0.2.2.1 d0.2.2.2.1 d0.2.2.2.2.1 d0.2.2.2.2.2.1.1 d0.2.2.2.2.2.1.2.1 d0.2.2.2.2.2.1.2.2.1 d0.2.2.2.2.2.1.2.2.2 d0.2.2.2.2.2.2 hg17 bdk bdk (OwnL.ow (Ow.ownl q10_5 rfl mnil) rfl) (OwnL.ow (Ow.ownl q10_6 rfl mnil) rfl) (OwnL.ow (Ow.ownl q10_7 rfl mnil) rfl) (OwnL.ow (Ow.ownl q10_8 rfl mnil) rfl) q10_9))
    refine VO.keep [117, 0] [(117, muns [mone g0 (.cells [Value.bool d0.1, Value.bool d0.2.1, Value.bool d0.2.2.1, Value.int .i64 (d0.2.2.2.1), Value.int .i64 (d0.2.2.2.2.1), Value.slice q10_A5 (d0.2.2.2.2.2.1.1.length) (q10_c5), Value.slice q10_A6 (d0.2.2.2.2.2.1.2.1.length) (q10_c6), Value.slice q10_A7 (d0.2.2.2.2.2.1.2.2.1.length) (q10_c7), Value.slice q10_A8 (d0.2.2.2.2.2.1.2.2.2.length) (q10_c8), Value.slice q10_A9 (d0.2.2.2.2.2.2.length) (q10_c9)].toArray q10_E (0, 0)), q10_n5, q10_n6, q10_n7, q10_n8, q10_n9]), (0, mout (wm W) (m0))] (by kernel_rfl) ?_
    refine VO.k4 0 2 6 11 ?_
    refine VC.cond rfl (fun hc18 => ?_) (fun hc18 => ?_)
    · -- TT
      refine VC.rs ?_
      refine VO.mv ?_
      refine VO.y rfl (.nilp rfl) ?_
      refine VO.y rfl (.fa rfl tst72 rfl) ?_
      obtain ⟨q19_E, q19_A5, q19_c5, q19_A6, q19_c6, q19_A7, q19_c7, q19_A8, q19_c8, q19_A9, q19_c9, q19_n5, q19_n6, q19_n7, q19_n8, q19_n9, _, q19_S, q19_3, q19_4, q19_5, q19_6, q19_7, q19_8, q19_9⟩ := openP_diskDisk (x0 := d0.1) (x1 := d0.2.1) (x2 := d0.2.2.1) (x3 := d0.2.2.2.1) (x4 := d0.2.2.2.2.1) (x5 := d0.2.2.2.2.2.1.1) (x6 := d0.2.2.2.2.2.1.2.1) (x7 := d0.2.2.2.2.2.1.2.2.1) (x8 := d0.2.2.2.2.2.1.2.2.2) (x9 := d0.2.2.2.2.2.2) ho17
      simp only [inK] at q19_3
      simp only [inK] at q19_4
      have q19_r5 := Rd.room (q19_5.rd (mle_refl _))
      have q19_r6 := Rd.room (q19_6.rd (mle_refl _))
      have q19_r7 := Rd.room (q19_7.rd (mle_refl _))
      have q19_r8 := Rd.room (q19_8.rd (mle_refl _))
      have q19_r9 := Rd.room (q19_9.rd (mle_refl _))
      refine VO.inv _ (fun _ h => h.parts (i := 117) rfl q19_S [125, 120, 121, 122, 123, 124]) ?_
      refine VO.store (k := 1) (c' := [Value.bool d0.1, Value.bool true, Value.bool d0.2.2.1, Value.int .i64 (d0.2.2.2.1), Value.int .i64 (d0.2.2.2.2.1), Value.slice q19_A5 (d0.2.2.2.2.2.1.1.length) (q19_c5), Value.slice q19_A6 (d0.2.2.2.2.2.1.2.1.length) (q19_c6), Value.slice q19_A7 (d0.2.2.2.2.2.1.2.2.1.length) (q19_c7), Value.slice q19_A8 (d0.2.2.2.2.2.1.2.2.2.length) (q19_c8), Value.slice q19_A9 (d0.2.2.2.2.2.2.length) (q19_c9)]) 125 rfl rfl (.inr ⟨tk4, rfl⟩) rfl rfl rfl rfl rfl ?_
      refine VO.gather (l := [mone g0 (.cells [Value.bool d0.1, Value.bool true, Value.bool d0.2.2.1, Value.int .i64 (d0.2.2.2.1), Value.int .i64 (d0.2.2.2.2.1), Value.slice q19_A5 (d0.2.2.2.2.2.1.1.length) (q19_c5), Value.slice q19_A6 (d0.2.2.2.2.2.1.2.1.length) (q19_c6), Value.slice q19_A7 (d0.2.2.2.2.2.1.2.2.1.length) (q19_c7), Value.slice q19_A8 (d0.2.2.2.2.2.1.2.2.2.length) (q19_c8), Value.slice q19_A9 (d0.2.2.2.2.2.2.length) (q19_c9)].toArray q19_E (0, 0)), q19_n5, q19_n6, q19_n7, q19_n8, q19_n9]) 126 [125, 120, 121, 122, 123, 124] rfl (fun hg26 => ?_)
      have ho26 : Ow (.ptr TdiskDisk) (muns [mone g0 (.cells [Value.bool d0.1, Value.bool true, Value.bool d0.2.2.1, Value.int .i64 (d0.2.2.2.1), Value.int .i64 (d0.2.2.2.2.1), Value.slice q19_A5 (d0.2.2.2.2.2.1.1.length) (q19_c5), Value.slice q19_A6 (d0.2.2.2.2.2.1.2.1.length) (q19_c6), Value.slice q19_A7 (d0.2.2.2.2.2.1.2.2.1.length) (q19_c7), Value.slice q19_A8 (d0.2.2.2.2.2.1.2.2.2.length) (q19_c8), Value.slice q19_A9 (d0.2.2.2.2.2.2.length) (q19_c9)].toArray q19_E (0, 0)), q19_n5, q19_n6, q19_n7, q19_n8, q19_n9]) [.pointer (some ⟨g0, 0, none⟩)] (g0, (d0.1, true, d0.2.2)) := (mkP_diskDisk d0.1 true d0.2.2.1 d0.2.2.2.1 d0.2.2.2.2.1 d0.2.2.2.2.2.1.1 d0.2.2.2.2.2.1.2.1 d0.2.2.2.2.2.1.2.2.1 d0.2.2.2.2.2.1.2.2.2 d0.2.2.2.2.2.2 hg26 bdk bdk (OwnL.ow (Ow.ownl q19_5 rfl mnil) rfl) (OwnL.ow (Ow.ownl q19_6 rfl mnil) rfl) (OwnL.ow (Ow.ownl q19_7 rfl mnil) rfl) (OwnL.ow (Ow.ownl q19_8 rfl mnil) rfl) q19_9)
      refine VO.k4 0 2 6 11 ?_
      refine VC.rs ?_
      refine VO.as ?_
      refine VO.k4 0 2 6 11 ?_
      refine VC.ret ?_
      refine outR ?_
      refine outR ?_
      refine ⟨_, _, res_run (rs := [.tmp 2]) rfl (.tmp rfl .nil), fun W_ hI => out_of (l := [muns [mone g0 (.cells [Value.bool d0.1, Value.bool true, Value.bool d0.2.2.1, Value.int .i64 (d0.2.2.2.1), Value.int .i64 (d0.2.2.2.2.1), Value.slice q19_A5 (d0.2.2.2.2.2.1.1.length) (q19_c5), Value.slice q19_A6 (d0.2.2.2.2.2.1.2.1.length) (q19_c6), Value.slice q19_A7 (d0.2.2.2.2.2.1.2.2.1.length) (q19_c7), Value.slice q19_A8 (d0.2.2.2.2.2.1.2.2.2.length) (q19_c8), Value.slice q19_A9 (d0.2.2.2.2.2.2.length) (q19_c9)].toArray q19_E (0, 0)), q19_n5, q19_n6, q19_n7, q19_n8, q19_n9]]) hI [126] rfl rfl (mle_refl _) (fun hS_ => ?_)⟩
      dsimp only [packV]
      have hm0_ : ((burnD d0).1 : DdiskDisk) = (d0.1, true, d0.2.2) := by first | rfl | (simp [burnD, *]; done)
      refine ⟨?_, ?_⟩
      rotate_left
      · rw [hm0_]; exact (Ow.up ho26 (hS_.1 _ (.head _)))
      all_goals (first | rfl | (simp [burnD, *]; done))
    · -- TF
      refine VC.skip ?_
      refine outN ?_
      refine VC.reg ?_
      refine VO.mv ?_
      refine VO.y rfl (.nilp rfl) ?_
      refine VO.y rfl (.fa rfl tst72 rfl) ?_
      obtain ⟨q27_E, q27_A5, q27_c5, q27_A6, q27_c6, q27_A7, q27_c7, q27_A8, q27_c8, q27_A9, q27_c9, q27_n5, q27_n6, q27_n7, q27_n8, q27_n9, _, q27_S, q27_3, q27_4, q27_5, q27_6, q27_7, q27_8, q27_9⟩ := openP_diskDisk (x0 := d0.1) (x1 := d0.2.1) (x2 := d0.2.2.1) (x3 := d0.2.2.2.1) (x4 := d0.2.2.2.2.1) (x5 := d0.2.2.2.2.2.1.1) (x6 := d0.2.2.2.2.2.1.2.1) (x7 := d0.2.2.2.2.2.1.2.2.1) (x8 := d0.2.2.2.2.2.1.2.2.2) (x9 := d0.2.2.2.2.2.2) ho17
      simp only [inK] at q27_3
      simp only [inK] at q27_4
      have q27_r5 := Rd.room (q27_5.rd (mle_refl _))
      have q27_r6 := Rd.room (q27_6.rd (mle_refl _))
      have q27_r7 := Rd.room (q27_7.rd (mle_refl _))
      have q27_r8 := Rd.room (q27_8.rd (mle_refl _))
      have q27_r9 := Rd.room (q27_9.rd (mle_refl _))
      refine VO.inv _ (fun _ h => h.parts (i := 117) rfl q27_S [133, 128, 129, 130, 131, 132]) ?_
      refine VO.y rfl (.ld1 133 rfl tk3 rfl (cellsAt_one rfl rfl)) ?_
      refine VO.y rfl (.sub rfl rfl rfl ⟨bd, bd⟩) ?_
      refine VO.y rfl (.nilp rfl) ?_
      refine VO.y rfl (.fa rfl tst72 rfl) ?_
      refine VO.store (k := 1) (c' := [Value.bool d0.1, Value.bool d0.2.1, Value.bool d0.2.2.1, Value.int .i64 (d0.2.2.2.1 - 1), Value.int .i64 (d0.2.2.2.2.1), Value.slice q27_A5 (d0.2.2.2.2.2.1.1.length) (q27_c5), Value.slice q27_A6 (d0.2.2.2.2.2.1.2.1.length) (q27_c6), Value.slice q27_A7 (d0.2.2.2.2.2.1.2.2.1.length) (q27_c7), Value.slice q27_A8 (d0.2.2.2.2.2.1.2.2.2.length) (q27_c8), Value.slice q27_A9 (d0.2.2.2.2.2.2.length) (q27_c9)]) 133 rfl rfl (.inr ⟨tk3, rfl⟩) rfl rfl rfl rfl rfl ?_
      refine VO.gather (l := [mone g0 (.cells [Value.bool d0.1, Value.bool d0.2.1, Value.bool d0.2.2.1, Value.int .i64 (d0.2.2.2.1 - 1), Value.int .i64 (d0.2.2.2.2.1), Value.slice q27_A5 (d0.2.2.2.2.2.1.1.length) (q27_c5), Value.slice q27_A6 (d0.2.2.2.2.2.1.2.1.length) (q27_c6), Value.slice q27_A7 (d0.2.2.2.2.2.1.2.2.1.length) (q27_c7), Value.slice q27_A8 (d0.2.2.2.2.2.1.2.2.2.length) (q27_c8), Value.slice q27_A9 (d0.2.2.2.2.2.2.length) (q27_c9)].toArray q27_E (0, 0)), q27_n5, q27_n6, q27_n7, q27_n8, q27_n9]) 134 [133, 128, 129, 130, 131, 132] rfl (fun hg34 => ?_)
      have ho34 : Ow (.ptr TdiskDisk) (muns [mone g0 (.cells [Value.bool d0.1, Value.bool d0.2.1, Value.bool d0.2.2.1, Value.int .i64 (d0.2.2.2.1 - 1), Value.int .i64 (d0.2.2.2.2.1), Value.slice q27_A5 (d0.2.2.2.2.2.1.1.length) (q27_c5), Value.slice q27_A6 (d0.2.2.2.2.2.1.2.1.length) (q27_c6), Value.slice q27_A7 (d0.2.2.2.2.2.1.2.2.1.length) (q27_c7), Value.slice q27_A8 (d0.2.2.2.2.2.1.2.2.2.length) (q27_c8), Value.slice q27_A9 (d0.2.2.2.2.2.2.length) (q27_c9)].toArray q27_E (0, 0)), q27_n5, q27_n6, q27_n7, q27_n8, q27_n9]) [.pointer (some ⟨g0, 0, none⟩)] (g0, (d0.1, d0.2.1, d0.2.2.1, d0.2.2.2.1 - 1, d0.2.2.2.2)) := (mkP_diskDisk d0.1 d0.2.1 d0.2.2.1 (d0.2.2.2.1 - 1) d0.2.2.2.2.1 d0.2.2.2.2.2.1.1 d0.2.2.2.2.2.1.2.1 d0.2.2.2.2.2.1.2.2.1 d0.2.2.2.2.2.1.2.2.2 d0.2.2.2.2.2.2 hg34 bdk bdk (OwnL.ow (Ow.ownl q27_5 rfl mnil) rfl) (OwnL.ow (Ow.ownl q27_6 rfl mnil) rfl) (OwnL.ow (Ow.ownl q27_7 rfl mnil) rfl) (OwnL.ow (Ow.ownl q27_8 rfl mnil) rfl) q27_9)
      refine VO.k4 0 2 6 11 ?_
      refine outN ?_
      refine VC.rs ?_
      refine VO.mv ?_
      refine VO.y rfl (.nilp rfl) ?_
      refine VO.y rfl (.fa rfl tst72 rfl) ?_
      obtain ⟨q35_E, q35_A5, q35_c5, q35_A6, q35_c6, q35_A7, q35_c7, q35_A8, q35_c8, q35_A9, q35_c9, q35_n5, q35_n6, q35_n7, q35_n8, q35_n9, _, q35_S, q35_3, q35_4, q35_5, q35_6, q35_7, q35_8, q35_9⟩ := openP_diskDisk (x0 := d0.1) (x1 := d0.2.1) (x2 := d0.2.2.1) (x3 := d0.2.2.2.1 - 1) (x4 := d0.2.2.2.2.1) (x5 := d0.2.2.2.2.2.1.1) (x6 := d0.2.2.2.2.2.1.2.1) (x7 := d0.2.2.2.2.2.1.2.2.1) (x8 := d0.2.2.2.2.2.1.2.2.2) (x9 := d0.2.2.2.2.2.2) ho34
      simp only [inK] at q35_3
      simp only [inK] at q35_4
      have q35_r5 := Rd.room (q35_5.rd (mle_refl _))
      have q35_r6 := Rd.room (q35_6.rd (mle_refl _))
      have q35_r7 := Rd.room (q35_7.rd (mle_refl _))
      have q35_r8 := Rd.room (q35_8.rd (mle_refl _))
      have q35_r9 := Rd.room (q35_9.rd (mle_refl _))
      refine VO.inv _ (fun _ h => h.parts (i := 134) rfl q35_S [141, 136, 137, 138, 139, 140]) ?_
      refine VO.y rfl (.ld1 141 rfl tk3 rfl (cellsAt_one rfl rfl)) ?_
      refine VO.y rfl (.add rfl rfl rfl ⟨bd, bd⟩) ?_
      refine VO.y rfl (.nilp rfl) ?_
      refine VO.y rfl (.fa rfl tst72 rfl) ?_
      refine VO.store (k := 1) (c' := [Value.bool d0.1, Value.bool d0.2.1, Value.bool d0.2.2.1, Value.int .i64 (d0.2.2.2.1 - 1), Value.int .i64 (d0.2.2.2.2.1 + 1), Value.slice q35_A5 (d0.2.2.2.2.2.1.1.length) (q35_c5), Value.slice q35_A6 (d0.2.2.2.2.2.1.2.1.length) (q35_c6), Value.slice q35_A7 (d0.2.2.2.2.2.1.2.2.1.length) (q35_c7), Value.slice q35_A8 (d0.2.2.2.2.2.1.2.2.2.length) (q35_c8), Value.slice q35_A9 (d0.2.2.2.2.2.2.length) (q35_c9)]) 141 rfl rfl (.inr ⟨tk3, rfl⟩) rfl rfl rfl rfl rfl ?_
      refine VO.gather (l := [mone g0 (.cells [Value.bool d0.1, Value.bool d0.2.1, Value.bool d0.2.2.1, Value.int .i64 (d0.2.2.2.1 - 1), Value.int .i64 (d0.2.2.2.2.1 + 1), Value.slice q35_A5 (d0.2.2.2.2.2.1.1.length) (q35_c5), Value.slice q35_A6 (d0.2.2.2.2.2.1.2.1.length) (q35_c6), Value.slice q35_A7 (d0.2.2.2.2.2.1.2.2.1.length) (q35_c7), Value.slice q35_A8 (d0.2.2.2.2.2.1.2.2.2.length) (q35_c8), Value.slice q35_A9 (d0.2.2.2.2.2.2.length) (q35_c9)].toArray q35_E (0, 0)), q35_n5, q35_n6, q35_n7, q35_n8, q35_n9]) 142 [141, 136, 137, 138, 139, 140] rfl (fun hg42 => ?_)
      have ho42 : Ow (.ptr TdiskDisk) (muns [mone g0 (.cells [Value.bool d0.1, Value.bool d0.2.1, Value.bool d0.2.2.1, Value.int .i64 (d0.2.2.2.1 - 1), Value.int .i64 (d0.2.2.2.2.1 + 1), Value.slice q35_A5 (d0.2.2.2.2.2.1.1.length) (q35_c5), Value.slice q35_A6 (d0.2.2.2.2.2.1.2.1.length) (q35_c6), Value.slice q35_A7 (d0.2.2.2.2.2.1.2.2.1.length) (q35_c7), Value.slice q35_A8 (d0.2.2.2.2.2.1.2.2.2.length) (q35_c8), Value.slice q35_A9 (d0.2.2.2.2.2.2.length) (q35_c9)].toArray q35_E (0, 0)), q35_n5, q35_n6, q35_n7, q35_n8, q35_n9]) [.pointer (some ⟨g0, 0, none⟩)] (g0, (d0.1, d0.2.1, d0.2.2.1, d0.2.2.2.1 - 1, d0.2.2.2.2.1 + 1, d0.2.2.2.2.2)) := (mkP_diskDisk d0.1 d0.2.1 d0.2.2.1 (d0.2.2.2.1 - 1) (d0.2.2.2.2.1 + 1) d0.2.2.2.2.2.1.1 d0.2.2.2.2.2.1.2.1 d0.2.2.2.2.2.1.2.2.1 d0.2.2.2.2.2.1.2.2.2 d0.2.2.2.2.2.2 hg42 bdk bdk (OwnL.ow (Ow.ownl q35_5 rfl mnil) rfl) (OwnL.ow (Ow.ownl q35_6 rfl mnil) rfl) (OwnL.ow (Ow.ownl q35_7 rfl mnil) rfl) (OwnL.ow (Ow.ownl q35_8 rfl mnil) rfl) q35_9)
      refine VO.k4 0 2 6 11 ?_
      refine VC.rs ?_
      refine VO.as ?_
      refine VO.keep [142, 0] [(142, muns [mone g0 (.cells [Value.bool d0.1, Value.bool d0.2.1, Value.bool d0.2.2.1, Value.int .i64 (d0.2.2.2.1 - 1), Value.int .i64 (d0.2.2.2.2.1 + 1), Value.slice q35_A5 (d0.2.2.2.2.2.1.1.length) (q35_c5), Value.slice q35_A6 (d0.2.2.2.2.2.1.2.1.length) (q35_c6), Value.slice q35_A7 (d0.2.2.2.2.2.1.2.2.1.length) (q35_c7), Value.slice q35_A8 (d0.2.2.2.2.2.1.2.2.2.length) (q35_c8), Value.slice q35_A9 (d0.2.2.2.2.2.2.length) (q35_c9)].toArray q35_E (0, 0)), q35_n5, q35_n6, q35_n7, q35_n8, q35_n9]), (0, mout (wm W) (m0))] (by kernel_rfl) ?_
      refine VO.k4 0 2 6 11 ?_
      refine VC.ret ?_
      refine ⟨_, _, res_run (rs := [.tmp 2]) rfl (.tmp rfl .nil), fun W_ hI => out_of (l := [muns [mone g0 (.cells [Value.bool d0.1, Value.bool d0.2.1, Value.bool d0.2.2.1, Value.int .i64 (d0.2.2.2.1 - 1), Value.int .i64 (d0.2.2.2.2.1 + 1), Value.slice q35_A5 (d0.2.2.2.2.2.1.1.length) (q35_c5), Value.slice q35_A6 (d0.2.2.2.2.2.1.2.1.length) (q35_c6), Value.slice q35_A7 (d0.2.2.2.2.2.1.2.2.1.length) (q35_c7), Value.slice q35_A8 (d0.2.2.2.2.2.1.2.2.2.length) (q35_c8), Value.slice q35_A9 (d0.2.2.2.2.2.2.length) (q35_c9)].toArray q35_E (0, 0)), q35_n5, q35_n6, q35_n7, q35_n8, q35_n9]]) hI [142] rfl rfl (mle_refl _) (fun hS_ => ?_)⟩
      dsimp only [packV]
      have hm0_ : ((burnD d0).1 : DdiskDisk) = (d0.1, d0.2.1, d0.2.2.1, d0.2.2.2.1 - 1, d0.2.2.2.2.1 + 1, d0.2.2.2.2.2) := by first | rfl | (simp [burnD, *]; done)
      refine ⟨?_, ?_⟩
      rotate_left
      · rw [hm0_]; exact (Ow.up ho42 (hS_.1 _ (.head _)))
      all_goals (first | rfl | (simp [burnD, *]; done))
  · -- F
    refine VC.skip ?_
    refine outN ?_
    refine VC.rs ?_
    refine VO.mv ?_
    refine VO.y rfl (.nilp rfl) ?_
    refine VO.y rfl (.fa rfl tst72 rfl) ?_
    obtain ⟨q43_E, q43_A5, q43_c5, q43_A6, q43_c6, q43_A7, q43_c7, q43_A8, q43_c8, q43_A9, q43_c9, q43_n5, q43_n6, q43_n7, q43_n8, q43_n9, _, q43_S, q43_3, q43_4, q43_5, q43_6, q43_7, q43_8, q43_9⟩ := openP_diskDisk (x0 := d0.1) (x1 := d0.2.1) (x2 := d0.2.2.1) (x3 := d0.2.2.2.1) (x4 := d0.2.2.2.2.1) (x5 := d0.2.2.2.2.2.1.1) (x6 := d0.2.2.2.2.2.1.2.1) (x7 := d0.2.2.2.2.2.1.2.2.1) (x8 := d0.2.2.2.2.2.1.2.2.2) (x9 := d0.2.2.2.2.2.2) ho8
    simp only [inK] at q43_3
    simp only [inK] at q43_4
    have q43_r5 := Rd.room (q43_5.rd (mle_refl _))
    have q43_r6 := Rd.room (q43_6.rd (mle_refl _))
    have q43_r7 := Rd.room (q43_7.rd (mle_refl _))
    have q43_r8 := Rd.room (q43_8.rd (mle_refl _))
    have q43_r9 := Rd.room (q43_9.rd (mle_refl _))
    refine VO.inv _ (fun _ h => h.parts (i := 108) rfl q43_S [149, 144, 145, 146, 147, 148]) ?_
    refine VO.y rfl (.ld1 149 rfl tk3 rfl (cellsAt_one rfl rfl)) ?_
    refine VO.y rfl (.add rfl rfl rfl ⟨bd, bd⟩) ?_
    refine VO.y rfl (.nilp rfl) ?_
    refine VO.y rfl (.fa rfl tst72 rfl) ?_
    refine VO.store (k := 1) (c' := [Value.bool d0.1, Value.bool d0.2.1, Value.bool d0.2.2.1, Value.int .i64 (d0.2.2.2.1), Value.int .i64 (d0.2.2.2.2.1 + 1), Value.slice q43_A5 (d0.2.2.2.2.2.1.1.length) (q43_c5), Value.slice q43_A6 (d0.2.2.2.2.2.1.2.1.length) (q43_c6), Value.slice q43_A7 (d0.2.2.2.2.2.1.2.2.1.length) (q43_c7), Value.slice q43_A8 (d0.2.2.2.2.2.1.2.2.2.length) (q43_c8), Value.slice q43_A9 (d0.2.2.2.2.2.2.length) (q43_c9)]) 149 rfl rfl (.inr ⟨tk3, rfl⟩) rfl rfl rfl rfl rfl ?_
    refine VO.gather (l := [mone g0 (.cells [Value.bool d0.1, Value.bool d0.2.1, Value.bool d0.2.2.1, Value.int .i64 (d0.2.2.2.1), Value.int .i64 (d0.2.2.2.2.1 + 1), Value.slice q43_A5 (d0.2.2.2.2.2.1.1.length) (q43_c5), Value.slice q43_A6 (d0.2.2.2.2.2.1.2.1.length) (q43_c6), Value.slice q43_A7 (d0.2.2.2.2.2.1.2.2.1.length) (q43_c7), Value.slice q43_A8 (d0.2.2.2.2.2.1.2.2.2.length) (q43_c8), Value.slice q43_A9 (d0.2.2.2.2.2.2.length) (q43_c9)].toArray q43_E (0, 0)), q43_n5, q43_n6, q43_n7, q43_n8, q43_n9]) 150 [149, 144, 145, 146, 147, 148] rfl (fun hg50 => ?_)
    have ho50 : Ow (.ptr TdiskDisk) (muns [mone g0 (.cells [Value.bool d0.1, Value.bool d0.2.1, Value.bool d0.2.2.1, Value.int .i64 (d0.2.2.2.1), Value.int .i64 (d0.2.2.2.2.1 + 1), Value.slice q43_A5 (d0.2.2.2.2.2.1.1.length) (q43_c5), Value.slice q43_A6 (d0.2.2.2.2.2.1.2.1.length) (q43_c6), Value.slice q43_A7 (d0.2.2.2.2.2.1.2.2.1.length) (q43_c7), Value.slice q43_A8 (d0.2.2.2.2.2.1.2.2.2.length) (q43_c8), Value.slice q43_A9 (d0.2.2.2.2.2.2.length) (q43_c9)].toArray q43_E (0, 0)), q43_n5, q43_n6, q43_n7, q43_n8, q43_n9]) [.pointer (some ⟨g0, 0, none⟩)] (g0, (d0.1, d0.2.1, d0.2.2.1, d0.2.2.2.1, d0.2.2.2.2.1 + 1, d0.2.2.2.2.2)) := (mkP_diskDisk d0.1 d0.2.1 d0.2.2.1 d0.2.2.2.1 (d0.2.2.2.2.1 + 1) d0.2.2.2.2.2.1.1 d0.2.2.2.2.2.1.2.1 d0.2.2.2.2.2.1.2.2.1 d0.2.2.2.2.2.1.2.2.2 d0.2.2.2.2.2.2 hg50 bdk bdk (OwnL.ow (Ow.ownl q43_5 rfl mnil) rfl) (OwnL.ow (Ow.ownl q43_6 rfl mnil) rfl) (OwnL.ow (Ow.ownl q43_7 rfl mnil) rfl) (OwnL.ow (Ow.ownl q43_8 rfl mnil) rfl) q43_9)
    refine VO.keep [150, 0] [(150, muns [mone g0 (.cells [Value.bool d0.1, Value.bool d0.2.1, Value.bool d0.2.2.1, Value.int .i64 (d0.2.2.2.1), Value.int .i64 (d0.2.2.2.2.1 + 1), Value.slice q43_A5 (d0.2.2.2.2.2.1.1.length) (q43_c5), Value.slice q43_A6 (d0.2.2.2.2.2.1.2.1.length) (q43_c6), Value.slice q43_A7 (d0.2.2.2.2.2.1.2.2.1.length) (q43_c7), Value.slice q43_A8 (d0.2.2.2.2.2.1.2.2.2.length) (q43_c8), Value.slice q43_A9 (d0.2.2.2.2.2.2.length) (q43_c9)].toArray q43_E (0, 0)), q43_n5, q43_n6, q43_n7, q43_n8, q43_n9]), (0, mout (wm W) (m0))] (by kernel_rfl) ?_
    refine VO.k3 0 2 6 ?_
    refine VC.rs ?_
    refine VO.as ?_
    refine VO.k3 0 2 6 ?_
    refine VC.ret ?_
    refine ⟨_, _, res_run (rs := [.tmp 2]) rfl (.tmp rfl .nil), fun W_ hI => out_of (l := [muns [mone g0 (.cells [Value.bool d0.1, Value.bool d0.2.1, Value.bool d0.2.2.1, Value.int .i64 (d0.2.2.2.1), Value.int .i64 (d0.2.2.2.2.1 + 1), Value.slice q43_A5 (d0.2.2.2.2.2.1.1.length) (q43_c5), Value.slice q43_A6 (d0.2.2.2.2.2.1.2.1.length) (q43_c6), Value.slice q43_A7 (d0.2.2.2.2.2.1.2.2.1.length) (q43_c7), Value.slice q43_A8 (d0.2.2.2.2.2.1.2.2.2.length) (q43_c8), Value.slice q43_A9 (d0.2.2.2.2.2.2.length) (q43_c9)].toArray q43_E (0, 0)), q43_n5, q43_n6, q43_n7, q43_n8, q43_n9]]) hI [150] rfl rfl (mle_refl _) (fun hS_ => ?_)⟩
    dsimp only [packV]
    have hm0_ : ((burnD d0).1 : DdiskDisk) = (d0.1, d0.2.1, d0.2.2.1, d0.2.2.2.1, d0.2.2.2.2.1 + 1, d0.2.2.2.2.2) := by first | rfl | (simp [burnD, *]; done)
    refine ⟨?_, ?_⟩
    rotate_left
    · rw [hm0_]; exact (Ow.up ho50 (hS_.1 _ (.head _)))
    all_goals (first | rfl | (simp [burnD, *]; done))
theorem dDone_ok (W : World) {m0 : Mem} (hm : mle (m0) (wm W)) {v0 : Value} {d0 : List UInt8} (h0 : Ow (.sl .byte) m0 [v0] d0) {v1 : List Value} {d1 : Ddiskstep} (h1 : Rd Tdiskstep (mout (wm W) (m0)) v1 d1) (e0 : d1.1 = 1 → 0 ≤ d1.2.2.2 ∧ d1.2.2.2 ≤ d0.length) (e1 : d0.length + d1.2.2.1.length ≤ 140737488355000) : CallR Try.prog 84 [v0, .agg v1.toArray] W (m0) (fun v m' => ∃ (s0 : Value), v = s0 ∧ Ow (.sl .byte) m' [s0] (doneB d0 d1)) := by
  obtain ⟨A0, c0, e0_, l0, k0⟩ := h0.slice
  subst e0_
  simp only [maxLen] at k0
  obtain ⟨p1_A2, p1_c2, rfl, p1_0, p1_1, p1_2, p1_3⟩ := open_diskstep (x0 := d1.1) (x1 := d1.2.1) (x2 := d1.2.2.1) (x3 := d1.2.2.2) h1
  simp only [inK] at p1_0
  simp only [inK] at p1_1
  have p1_r2 := Rd.room p1_2
  simp only [inK] at p1_3
  refine CallR.ofB (n := 20) hm Try.func84 rfl rfl rfl ?_
  refine VC.rs ?_
  refine VO.box (cs := [Value.int .i64 (d1.1), Value.int .i64 (d1.2.1), Value.slice p1_A2 (d1.2.2.1.length) (p1_c2), Value.int .i64 (d1.2.2.2)]) 102 rfl rfl rfl (fun g1 => ?_)
  refine VO.as ?_
  refine VO.k4 0 1 3 4 ?_
  refine VC.seq ?_
  refine VC.rs ?_
  refine VO.y rfl (.fa rfl tst101 rfl) ?_
  refine VO.y rfl (.ld1 102 rfl tk3 rfl (cellsAt_one rfl rfl)) ?_
  refine VO.k5 0 1 3 4 6 ?_
  refine VC.block ?_
  refine VC.rs ?_
  refine VO.y rfl (.eql rfl rfl) ?_
  refine VO.as ?_
  refine VO.keep [102, 0, 1] [(102, mone g1 (.cells [Value.int .i64 (d1.1), Value.int .i64 (d1.2.1), Value.slice p1_A2 (d1.2.2.1.length) (p1_c2), Value.int .i64 (d1.2.2.2)].toArray 101 (0, 0))), (0, mout (wm W) (m0)), (1, m0)] (by kernel_rfl) ?_
  refine VO.k6 0 1 3 4 6 7 ?_
  refine VC.cond rfl (fun hc3 => ?_) (fun hc3 => ?_)
  · -- T
    refine VC.rs ?_
    refine VO.mv ?_
    refine VO.y rfl (.fa rfl tst101 rfl) ?_
    refine VO.y rfl (.ld1 102 rfl tk25 rfl (cellsAt_one rfl rfl)) ?_
    obtain ⟨mo4, cs4, hM4, hA4, hC4⟩ := (Ow.ownl h0 rfl mnil)
    obtain ⟨all4, hS4, hR4⟩ := Rd.srcI (P := Try.prog) (p1_2) Try.underlying25
    refine VO.app 1 rfl rfl rfl tsl25 tz5 rfl rfl hM4 hA4 (hS4 _ 0 rfl) hR4.nice bdm bd (by decide) (fun v4 m4 hN4 => ?_)
    have ho4 : OwnL .byte m4 mnil v4 (d0 ++ d1.2.2.1) := OwnL.more hC4 hN4 (All2c.mono hR4 fun _ _ h => Rd.flat rfl h _)
    obtain ⟨A4, c4, rfl, l4, k4⟩ := ho4.slice
    simp only [maxLen] at k4
    refine VO.as ?_
    refine VO.k6 0 1 3 4 6 7 ?_
    refine VC.ret ?_
    refine outBR ?_
    refine outR ?_
    refine ⟨_, _, res_run (rs := [.tmp 4]) rfl (.tmp rfl .nil), fun W_ hI => out_of (l := [m4]) hI [1] rfl rfl (mle_refl _) (fun hS_ => ?_)⟩
    dsimp only [packV]
    have he0 : (doneB d0 d1 : Ty.Den (.sl .byte)) = d0 ++ d1.2.2.1 := by first | rfl | (simp [doneB, *]; done)
    refine ⟨Value.slice A4 ((d0 ++ d1.2.2.1).length) (c4), ?_, ?_⟩
    rotate_left
    · rw [he0]; exact (Ow.up (OwnL.ow ho4 rfl) (hS_.1 _ (.head _)))
    all_goals (first | rfl | (simp [*]; done))
  · -- F
    refine VC.rs ?_
    refine VO.y rfl (.eql rfl rfl) ?_
    refine VO.as ?_
    refine VO.k7 0 1 3 4 6 7 13 ?_
    refine VC.cond rfl (fun hc5 => ?_) (fun hc5 => ?_)
    · -- FT
      refine VC.rs ?_
      refine VO.mv ?_
      refine VO.y rfl (.fa rfl tst101 rfl) ?_
      refine VO.y rfl (.ld1 102 rfl tk3 rfl (cellsAt_one rfl rfl)) ?_
      have hs6 := (OwnL.rd (Ow.ownl h0 rfl mnil) (mle_refl _) (mle_nil _)).pre (j := ((d1.2.2.2).toNat)) bd
      refine VO.y rfl (.slHI ((d1.2.2.2).toNat) rfl rfl tsl25 bd bd) ?_
      refine VO.as ?_
      refine VO.k7 0 1 3 4 6 7 13 ?_
      refine VC.ret ?_
      refine outBR ?_
      refine outR ?_
      refine ⟨_, _, res_run (rs := [.tmp 4]) rfl (.tmp rfl .nil), fun W_ hI => out_of (l := [m0]) hI [1] rfl rfl (mle_refl _) (fun hS_ => ?_)⟩
      dsimp only [packV]
      have he0 : (doneB d0 d1 : Ty.Den (.sl .byte)) = (d0).take ((d1.2.2.2).toNat) := by first | rfl | (simp [doneB, *]; done)
      refine ⟨Value.slice A0 ((d1.2.2.2).toNat) (c0), ?_, ?_⟩
      rotate_left
      · rw [he0]; exact (Ow.up (OwnL.ow ((Ow.ownl h0 rfl mnil).pre (j := ((d1.2.2.2).toNat)) bd) rfl) (hS_.1 _ (.head _)))
      all_goals (first | rfl | (simp [*]; done))
    · -- FF
      refine VC.skip ?_
      refine outBN ?_
      refine outN ?_
      refine VC.rs ?_
      refine VO.mv ?_
      refine VO.as ?_
      refine VO.k7 0 1 3 4 6 7 13 ?_
      refine VC.ret ?_
      refine ⟨_, _, res_run (rs := [.tmp 4]) rfl (.tmp rfl .nil), fun W_ hI => out_of (l := [m0]) hI [1] rfl rfl (mle_refl _) (fun hS_ => ?_)⟩
      dsimp only [packV]
      have he0 : (doneB d0 d1 : Ty.Den (.sl .byte)) = d0 := by first | rfl | (simp [doneB, *]; done)
      refine ⟨Value.slice A0 (d0.length) (c0), ?_, ?_⟩
      rotate_left
      · rw [he0]; exact (Ow.up (OwnL.ow (Ow.ownl h0 rfl mnil) rfl) (hS_.1 _ (.head _)))
      all_goals (first | rfl | (simp [*]; done))
end
end Go.Proofs.Ytbjkfnnabnacfaa
